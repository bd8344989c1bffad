/- The law of rounds. -/
import Derived.Test.YtgeldamcekjdgaaHB8
import Derived.Test.YtgeldamcekjdgaaHE1
import Derived.Test.YtgeldamcekjdgaaHE2
import Derived.Test.YtgeldamcekjdgaaHE3
import Derived.Test.YtgeldamcekjdgaaLw
namespace Go.Proofs.Ytgeldamcekjdgaa
open Go Pm
set_option linter.unusedSimpArgs false
set_option linter.unusedVariables false
set_option maxHeartbeats 4000000
set_option maxRecDepth 100000
theorem hi_ints (N : Nat) (l : List Int) : Hi N (ints N l) := .map (Nat.le_refl _) fun x j u h => by
  match j with
  | 0 => simp [intE] at h; subst h; exact .v _
  | j + 1 => simp [intE] at h
theorem lawR {G1 : Gh} {N lo : Nat} {Fx : V → Value → Prop} {r : Ro} (hr : OKr r) {a1 a2 a3 a4 b1 b2 b3 b4 : Value} (x : List ByteArray) (hG : G1.n = 110) (hOw : G1.ow = fun _ => false) (hNm : G1.nm = []) (hw0 : G1.w0.heap.size ≤ N)
    (hX : ∀ G2 : Gh, (∀ w, G2.Zi w → G1.Zi w) → XOK G2 N Fx) (hN : ∀ w b o v, N ≤ b → G1.Zi w → G1.Zi (w.setCell ⟨b, o, none⟩ v))
    (own : AX Fx (.agg [.v b1, .v b2, .v b3, .v b4]) (roE 0 r)) (arg : AX Fx (.agg [.v a1, .v a2, .v a3, .v a4]) (roE 0 r)) :
    SemL Try.prog G1 ((flat (Try.f3.body.getD .skip)).drop 11) (St.of [(3, .ptr 3 0), (7, .ptr 7 0), (8, strs N x), (20, bl true)] [(3, .box [.v a1, .v a2, .v a3, .v a4]), (7, .box [.v b1, .v b2, .v b3, .v b4])]) (EndsAt Try.prog lo [.tmp 6] (bl true)) := by
  refine semL_loose hN fun w2 O2 ys zs G2 g1 g2 g3 g4 g5 p1 p2 q1 q2 q3 => ⟨rfl, rfl, ?_⟩
  rw [← g5] at hw0
  have e1 : WS G2 (ys 8) := ws_of (p1 8 rfl) hw0 q1 q2 q3
  have hX2 : XOK G2 N Fx := hX G2 fun w hw => (q1 w hw).1
  simp only [exF, exH, exOB, exCs, exOf, strs, i64]
  generalize ys 8 = e1v at e1 ⊢
  rw [← g1] at hG
  rw [← g4] at hNm
  show SemL Try.prog G2 _ _ _
  refine vcN_sound 4 _ _ ?_
  simp only [Try.f3, Option.getD_some, flat_seq, flat_region, flat_cond, flat_block, flat_ret, List.singleton_append, List.cons_append, List.nil_append, List.drop_succ_cons, List.drop_zero]
  rw [← g2] at hOw
  obtain ⟨pa, pn, pc, rfl, hpl, hpa⟩ := e1
  simp only [go_sem, hG, hOw, reduceIte, Nat.reduceLeDiff, Nat.le_refl, Nat.reduceEqDiff, Nat.reduceAdd, Nat.reduceLT, reduceCtorEq, Int.toNat_natCast]
  refine semC_loop (fun j : Nat => St.of [(3, .ptr 3 0), (7, .ptr 7 0), (8, .v (.slice pa pn pc)), (20, bl true), (96, i64 pn), (97, i64 j)] [(3, .box [.v a1, .v a2, .v a3, .v a4]), (7, .box [.v b1, .v b2, .v b3, .v b4])])
    (fun j => j ≤ pn) (fun j => pn - j) 0 (by omega) (ent_of [(3, some 3), (7, some 7)] (by (simp only [go_sem, reduceIte, Nat.reduceLeDiff, Nat.le_refl, Nat.reduceEqDiff, Nat.reduceAdd, Nat.reduceLT, reduceCtorEq, Int.toNat_natCast]) <;> simp) (by (simp only [go_sem, entH, entH1, nilArr, obOK, reduceIte, Nat.reduceLeDiff, Nat.le_refl, Nat.reduceEqDiff, Nat.reduceAdd, Nat.reduceLT, reduceCtorEq, Int.toNat_natCast]) <;> simp) (by simp [injR, apart]) (by simp [coverR, usH]) (by simp [hNm, lkR, names])) ?_
  rintro j hj
  refine vc_sound _ _ _ ?_; simp only [go_sem, hG, hOw, reduceIte, Nat.reduceLeDiff, Nat.le_refl, Nat.reduceEqDiff, Nat.reduceAdd, Nat.reduceLT, reduceCtorEq, Int.toNat_natCast]
  (repeat' (first | (with_reducible refine And.intro ?_ ?_) | (with_reducible intro _) | (with_reducible refine exP ?_ ?_))); all_goals (try omega)
  · rename_i hjn
    obtain ⟨b', o'', rfl, hwr'⟩ := hpa (by omega)
    refine semStep_zix (e := 9) (sz := 1) rfl (by kernel_rfl) (by rfl) (by rfl) (by omega) (by omega) (by simp [chk, hG]) ?_
    simp only [go_sem, hG, hOw, reduceIte, Nat.reduceLeDiff, Nat.le_refl, Nat.reduceEqDiff, Nat.reduceAdd, Nat.reduceLT, reduceCtorEq, Int.toNat_natCast]
    obtain ⟨x1, x2, x3, x4⟩ := hwr' j (by omega)
    refine semStep_zst (ag := false) rfl rfl (by kernel_rfl) (b := b') (off := o'' + j) (by simp [ev, go_sem]) (by rfl) x1 x2 x3 (fun w => x4 w _) ?_
    simp only [go_sem, hG, hOw, reduceIte, Nat.reduceLeDiff, Nat.le_refl, Nat.reduceEqDiff, Nat.reduceAdd, Nat.reduceLT, reduceCtorEq, Int.toNat_natCast]
    (repeat' (first | (with_reducible refine And.intro ?_ ?_) | (with_reducible intro _) | (with_reducible refine exP ?_ ?_))); all_goals (try omega)
    exact ⟨j + 1, by omega, by omega, ent_of [(3, some 3), (7, some 7)] (by (simp only [go_sem, reduceIte, Nat.reduceLeDiff, Nat.le_refl, Nat.reduceEqDiff, Nat.reduceAdd, Nat.reduceLT, reduceCtorEq, Int.toNat_natCast]) <;> simp) (by (simp only [go_sem, entH, entH1, nilArr, obOK, reduceIte, Nat.reduceLeDiff, Nat.le_refl, Nat.reduceEqDiff, Nat.reduceAdd, Nat.reduceLT, reduceCtorEq, Int.toNat_natCast]) <;> simp) (by simp [injR, apart]) (by simp [coverR, usH]) (by simp [hNm, lkR, names])⟩
  · refine call_X hX2 (Same05_ok r r hr) (.cons own (.cons arg .nil)) (.v _) (by simp [chk, hG]) ?_
    simp only [go_sem, hG, hOw, reduceIte, Nat.reduceLeDiff, Nat.le_refl, Nat.reduceEqDiff, Nat.reduceAdd, Nat.reduceLT, reduceCtorEq, Int.toNat_natCast]
theorem HandRounds_ok (r : Ro) (n part : Int) : Gives Try.prog 3 [roE 0 r, i64 n, i64 part] (fun _ => bl true) := by
  refine pure_introL (fun _ => false) Try.func3 Try.ntmps3 rfl (by kernel_rfl) (by simp) rfl (by decide) fun G hG hOw hNm hZ hB => ?_
  refine vcN_sound 4 _ _ ?_
  simp only [go_sem, hG, hOw, reduceIte, Nat.reduceLeDiff, Nat.le_refl, Nat.reduceEqDiff, Nat.reduceAdd, Nat.reduceLT, reduceCtorEq, Int.toNat_natCast]
  refine call_pure (Great05_ok r) (by first | exact Subs.refl _ | (repeat' (first | exact Subs.nil | exact Sub.refl _ | exact Sub.lo (Nat.zero_le _) | refine Subs.cons ?_ ?_ | refine Subs.agg ?_ | refine Subs.fp ?_ | refine Subs.tup ?_ | refine Sub.map (Nat.zero_le _) (fun _ => ?_)))) (by first | rfl | simp [allP, all0, pureV, pure0, *]) (by simp [chk, hG]) ?_
  simp only [go_sem, hG, hOw, reduceIte, Nat.reduceLeDiff, Nat.le_refl, Nat.reduceEqDiff, Nat.reduceAdd, Nat.reduceLT, reduceCtorEq, Int.toNat_natCast]
  intro hgr
  have hr := greatR_ok hgr
  refine call_pure (Twin05_ok r hr) (by first | exact Subs.refl _ | (repeat' (first | exact Subs.nil | exact Sub.refl _ | exact Sub.lo (Nat.zero_le _) | refine Subs.cons ?_ ?_ | refine Subs.agg ?_ | refine Subs.fp ?_ | refine Subs.tup ?_ | refine Sub.map (Nat.zero_le _) (fun _ => ?_)))) (by first | rfl | simp [allP, all0, pureV, pure0, *]) (by simp [chk, hG]) ?_
  simp only [go_sem, hG, hOw, reduceIte, Nat.reduceLeDiff, Nat.le_refl, Nat.reduceEqDiff, Nat.reduceAdd, Nat.reduceLT, reduceCtorEq, Int.toNat_natCast]
  (repeat' (first | (with_reducible refine And.intro ?_ ?_) | (with_reducible intro _) | (with_reducible refine exP ?_ ?_))); all_goals (try omega)
  refine semL_ent (s' := St.of [(1, i64 n), (2, i64 part), (3, .ptr 3 0), (7, .ptr 7 0)] [(3, .box (roC 0 r)), (7, .box (roC G.lo r))]) (ent_of [(3, some 3), (7, some 7)] (by (simp only [go_sem, reduceIte, Nat.reduceLeDiff, Nat.le_refl, Nat.reduceEqDiff, Nat.reduceAdd, Nat.reduceLT, reduceCtorEq, Int.toNat_natCast]) <;> simp) (by (simp only [go_sem, entH, entH1, nilArr, obOK, reduceIte, Nat.reduceLeDiff, Nat.le_refl, Nat.reduceEqDiff, Nat.reduceAdd, Nat.reduceLT, reduceCtorEq, Int.toNat_natCast]) <;> simp) (by simp [injR, apart]) (by simp [coverR, usH]) (by simp [hNm, lkR, names])) ?_
  refine semL_exact hZ fun w1 O1 ys zs G1 g1 g2 g3 g4 g5 f1 f2 z1 z2 => ⟨rfl, rfl, ?_⟩
  let Fx : V → Value → Prop := fun x y => R0 w1 O1 x y
  have hX : XOK G1 w1.heap.size Fx := XOK.of (fun _ _ h => h) z1
  have fa1 : Fx (chs 0 r.text) (zs 3 0) := f2 3 _ 0 _ rfl rfl rfl
  have fa2 : Fx (hps 0 r.helpers) (zs 3 1) := f2 3 _ 1 _ rfl rfl rfl
  have fa3 : Fx (srs 0 r.shares) (zs 3 2) := f2 3 _ 2 _ rfl rfl rfl
  have fa4 : Fx (ses 0 r.sheets) (zs 3 3) := f2 3 _ 3 _ rfl rfl rfl
  have sub1 : Pm.Sub (chs G.lo r.text) (chs 0 r.text) := by first | exact Subs.refl _ | (repeat' (first | exact Subs.nil | exact Sub.refl _ | exact Sub.lo (Nat.zero_le _) | refine Subs.cons ?_ ?_ | refine Subs.agg ?_ | refine Subs.fp ?_ | refine Subs.tup ?_ | refine Sub.map (Nat.zero_le _) (fun _ => ?_)))
  have sub2 : Pm.Sub (hps G.lo r.helpers) (hps 0 r.helpers) := by first | exact Subs.refl _ | (repeat' (first | exact Subs.nil | exact Sub.refl _ | exact Sub.lo (Nat.zero_le _) | refine Subs.cons ?_ ?_ | refine Subs.agg ?_ | refine Subs.fp ?_ | refine Subs.tup ?_ | refine Sub.map (Nat.zero_le _) (fun _ => ?_)))
  have sub3 : Pm.Sub (srs G.lo r.shares) (srs 0 r.shares) := by first | exact Subs.refl _ | (repeat' (first | exact Subs.nil | exact Sub.refl _ | exact Sub.lo (Nat.zero_le _) | refine Subs.cons ?_ ?_ | refine Subs.agg ?_ | refine Subs.fp ?_ | refine Subs.tup ?_ | refine Sub.map (Nat.zero_le _) (fun _ => ?_)))
  have sub4 : Pm.Sub (ses G.lo r.sheets) (ses 0 r.sheets) := by first | exact Subs.refl _ | (repeat' (first | exact Subs.nil | exact Sub.refl _ | exact Sub.lo (Nat.zero_le _) | refine Subs.cons ?_ ?_ | refine Subs.agg ?_ | refine Subs.fp ?_ | refine Subs.tup ?_ | refine Sub.map (Nat.zero_le _) (fun _ => ?_)))
  have fb1 : Fx (chs 0 r.text) (zs 7 0) := sub1 _ _ _ (f2 7 _ 0 _ rfl rfl rfl)
  have fb2 : Fx (hps 0 r.helpers) (zs 7 1) := sub2 _ _ _ (f2 7 _ 1 _ rfl rfl rfl)
  have fb3 : Fx (srs 0 r.shares) (zs 7 2) := sub3 _ _ _ (f2 7 _ 2 _ rfl rfl rfl)
  have fb4 : Fx (ses 0 r.sheets) (zs 7 3) := sub4 _ _ _ (f2 7 _ 3 _ rfl rfl rfl)
  simp only [exF, exH, exOB, exCs, exOf, roC, chs, hps, srs, ses, i64]
  generalize zs 3 0 = a1 at fa1 ⊢
  generalize zs 3 1 = a2 at fa2 ⊢
  generalize zs 3 2 = a3 at fa3 ⊢
  generalize zs 3 3 = a4 at fa4 ⊢
  generalize zs 7 0 = b1 at fb1 ⊢
  generalize zs 7 1 = b2 at fb2 ⊢
  generalize zs 7 2 = b3 at fb3 ⊢
  generalize zs 7 3 = b4 at fb4 ⊢
  refine vcN_sound 7 _ _ ?_
  rw [← g1] at hG
  rw [← g2] at hOw
  simp only [go_sem, hG, hOw, reduceIte, Nat.reduceLeDiff, Nat.le_refl, Nat.reduceEqDiff, Nat.reduceAdd, Nat.reduceLT, reduceCtorEq, Int.toNat_natCast]
  have own : AX Fx (.agg [.v b1, .v b2, .v b3, .v b4]) (roE 0 r) := .agg4 _ _ _ _ _ _ _ _ (.ex _ _ fb1) (.ex _ _ fb2) (.ex _ _ fb3) (.ex _ _ fb4)
  have arg : AX Fx (.agg [.v a1, .v a2, .v a3, .v a4]) (roE 0 r) := .agg4 _ _ _ _ _ _ _ _ (.ex _ _ fa1) (.ex _ _ fa2) (.ex _ _ fa3) (.ex _ _ fa4)
  have int : ∀ n, AX Fx (i64 n) (i64 n) := fun n => .pure _ _ rfl (.refl _)
  refine call_X hX (Line_ok r hr n) (.cons own (.cons (int n) .nil)) (.tup2 (hi_strs _ _) (.v _)) (by simp [chk, hG]) ?_
  simp only [go_sem, hG, hOw, reduceIte, Nat.reduceLeDiff, Nat.le_refl, Nat.reduceEqDiff, Nat.reduceAdd, Nat.reduceLT, reduceCtorEq, Int.toNat_natCast]
  refine call_X hX (LineR_ok r hr n) (.cons arg (.cons (int n) .nil)) (.tup2 (hi_strs _ _) (.v _)) (by simp [chk, hG]) ?_
  simp only [go_sem, hG, hOw, reduceIte, Nat.reduceLeDiff, Nat.le_refl, Nat.reduceEqDiff, Nat.reduceAdd, Nat.reduceLT, reduceCtorEq, Int.toNat_natCast]
  refine call_X hX (HGaps_ok r hr) (.cons own .nil) (.tup2 (hi_ints _ _) (.v _)) (by simp [chk, hG]) ?_
  simp only [go_sem, hG, hOw, reduceIte, Nat.reduceLeDiff, Nat.le_refl, Nat.reduceEqDiff, Nat.reduceAdd, Nat.reduceLT, reduceCtorEq, Int.toNat_natCast]
  refine call_X hX (Gaps_ok r hr) (.cons arg .nil) (.tup2 (hi_ints _ _) (.v _)) (by simp [chk, hG]) ?_
  simp only [go_sem, hG, hOw, reduceIte, Nat.reduceLeDiff, Nat.le_refl, Nat.reduceEqDiff, Nat.reduceAdd, Nat.reduceLT, reduceCtorEq, Int.toNat_natCast]
  refine call_X hX (HBack_ok r hr part) (.cons own (.cons (int part) .nil)) (.tup2 (.v _) (.v _)) (by simp [chk, hG]) ?_
  simp only [go_sem, hG, hOw, reduceIte, Nat.reduceLeDiff, Nat.le_refl, Nat.reduceEqDiff, Nat.reduceAdd, Nat.reduceLT, reduceCtorEq, Int.toNat_natCast]
  refine call_X hX (Back_ok r hr part) (.cons arg (.cons (int part) .nil)) (.tup2 (.v _) (.v _)) (by simp [chk, hG]) ?_
  simp only [go_sem, hG, hOw, reduceIte, Nat.reduceLeDiff, Nat.le_refl, Nat.reduceEqDiff, Nat.reduceAdd, Nat.reduceLT, reduceCtorEq, Int.toNat_natCast]
  refine semC_draw0 mixed (by kernel_rfl) ?_
  simp only [go_sem, hG, hOw, reduceIte, Nat.reduceLeDiff, Nat.le_refl, Nat.reduceEqDiff, Nat.reduceAdd, Nat.reduceLT, reduceCtorEq, Int.toNat_natCast]
  refine ⟨_, callX hX (Check_ok r hr) (.cons own .nil) (.v _), ?_⟩
  simp only [go_sem, hG, hOw, reduceIte, Nat.reduceLeDiff, Nat.le_refl, Nat.reduceEqDiff, Nat.reduceAdd, Nat.reduceLT, reduceCtorEq, Int.toNat_natCast]
  refine ⟨_, callX hX (CheckR_ok r hr) (.cons arg .nil) (.v _), ?_⟩
  simp only [go_sem, hG, hOw, reduceIte, Nat.reduceLeDiff, Nat.le_refl, Nat.reduceEqDiff, Nat.reduceAdd, Nat.reduceLT, reduceCtorEq, Int.toNat_natCast]
  refine ⟨_, callX hX (SameWords_ok (lineR r n) (lineR r n)) (.cons (.pure _ _ rfl (Sub.lo (Nat.zero_le _))) (.cons (.pure _ _ rfl (Sub.lo (Nat.zero_le _))) .nil)) (.v _), ?_⟩
  simp only [go_sem, hG, hOw, reduceIte, Nat.reduceLeDiff, Nat.le_refl, Nat.reduceEqDiff, Nat.reduceAdd, Nat.reduceLT, reduceCtorEq, Int.toNat_natCast]
  refine ⟨_, callX hX (SameInts_ok (gapsL r) (gapsL r)) (.cons (.pure _ _ rfl (Sub.lo (Nat.zero_le _))) (.cons (.pure _ _ rfl (Sub.lo (Nat.zero_le _))) .nil)) (.v _), ?_⟩
  simp only [go_sem, hG, hOw, reduceIte, Nat.reduceLeDiff, Nat.le_refl, Nat.reduceEqDiff, Nat.reduceAdd, Nat.reduceLT, reduceCtorEq, Int.toNat_natCast]
  refine semL_ent (s' := St.of [(3, .ptr 3 0), (7, .ptr 7 0), (8, strs w1.heap.size (lineR r n)), (20, bl true)] [(3, .box [.v a1, .v a2, .v a3, .v a4]), (7, .box [.v b1, .v b2, .v b3, .v b4])]) (by rw [← g4] at hNm; exact ent_of [(3, some 3), (7, some 7)] (by (simp only [go_sem, reduceIte, Nat.reduceLeDiff, Nat.le_refl, Nat.reduceEqDiff, Nat.reduceAdd, Nat.reduceLT, reduceCtorEq, Int.toNat_natCast]) <;> simp) (by (simp only [go_sem, entH, entH1, nilArr, obOK, reduceIte, Nat.reduceLeDiff, Nat.le_refl, Nat.reduceEqDiff, Nat.reduceAdd, Nat.reduceLT, reduceCtorEq, Int.toNat_natCast]) <;> simp) (by simp [injR, apart]) (by simp [coverR, usH]) (by simp [hNm, lkR, names])) ?_
  exact lawR hr (lineR r n) hG hOw (g4.trans hNm) g5 (fun G2 h => XOK.of (fun _ _ h => h) (fun w hw => z1 w (h w hw))) z2 own arg
end Go.Proofs.Ytgeldamcekjdgaa
