/- The law of merging. -/
import Derived.Test.YtgienbcekgokiaaF10
import Derived.Test.YtgienbcekgokiaaF12
import Derived.Test.YtgienbcekgokiaaLw
namespace Go.Proofs.Ytgienbcekgokiaa
open Go Pm
set_option linter.unusedSimpArgs false
set_option linter.unusedVariables false
set_option maxHeartbeats 4000000
set_option maxRecDepth 100000
theorem lawM {G1 : Gh} {N lo : Nat} {Fx : V → Value → Prop} {o a b : List ByteArray} {y0 y1 y2 y7 y8 y9 : Value} (x : List ByteArray) (hG : G1.n = 82) (hOw : G1.ow = fun i => [28, 31, 34].contains i) (hNm : G1.nm = []) (hw0 : G1.w0.heap.size ≤ N)
    (hX : ∀ G2 : Gh, (∀ w, G2.Zi w → G1.Zi w) → XOK G2 N Fx) (hN : ∀ w b o v, N ≤ b → G1.Zi w → G1.Zi (w.setCell ⟨b, o, none⟩ v))
    (f0 : Fx (strs 0 o) y0) (f1 : Fx (strs 0 a) y1) (f2 : Fx (strs 0 b) y2) (f7 : Fx (strs 0 o) y7) (f8 : Fx (strs 0 a) y8) (f9 : Fx (strs 0 b) y9) :
    SemL Try.prog G1 ((flat (Try.f5.body.getD .skip)).drop 7) (St.of [(0, .v y0), (1, .v y1), (2, .v y2), (7, .v y7), (8, .v y8), (9, .v y9), (10, strs N x), (14, bl true)] []) (EndsAt Try.prog lo [.tmp 6] (bl true)) := by
  refine semL_loose hN fun w2 O2 ys zs G2 g1 g2 g3 g4 g5 p1 p2 q1 q2 q3 => ⟨rfl, rfl, ?_⟩
  rw [← g5] at hw0
  have e1 : WS G2 (ys 10) := ws_of (p1 10 rfl) hw0 q1 q2 q3
  have hX2 : XOK G2 N Fx := hX G2 fun w hw => (q1 w hw).1
  simp only [exF, exH, exOB, exCs, exOf, strs, hks, i64]
  generalize ys 10 = e1v at e1 ⊢
  rw [← g1] at hG
  rw [← g4] at hNm
  show SemL Try.prog G2 _ _ _
  refine vcN_sound 4 _ _ ?_
  simp only [Try.f5, Option.getD_some, flat_seq, flat_region, flat_cond, flat_block, flat_ret, List.singleton_append, List.cons_append, List.nil_append, List.drop_succ_cons, List.drop_zero]
  rw [← g2] at hOw
  obtain ⟨pa, pn, pc, rfl, hpl, hpa⟩ := e1
  simp only [go_sem, hG, hOw, reduceIte, Nat.reduceLeDiff, Nat.le_refl, Nat.reduceEqDiff, Nat.reduceAdd, Nat.reduceLT, reduceCtorEq, Int.toNat_natCast]
  refine semC_loop (fun j : Nat => St.of [(0, .v y0), (1, .v y1), (2, .v y2), (7, .v y7), (8, .v y8), (9, .v y9), (10, .v (.slice pa pn pc)), (14, bl true), (58, i64 pn), (59, i64 j)] [])
    (fun j => j ≤ pn) (fun j => pn - j) 0 (by omega) (ent_of0 (by (simp only [go_sem, reduceIte, Nat.reduceLeDiff, Nat.le_refl, Nat.reduceEqDiff, Nat.reduceAdd, Nat.reduceLT, reduceCtorEq, Int.toNat_natCast]) <;> simp) hNm) ?_
  rintro j hj
  refine vc_sound _ _ _ ?_; simp only [go_sem, hG, hOw, reduceIte, Nat.reduceLeDiff, Nat.le_refl, Nat.reduceEqDiff, Nat.reduceAdd, Nat.reduceLT, reduceCtorEq, Int.toNat_natCast]
  (repeat' (first | (with_reducible refine And.intro ?_ ?_) | (with_reducible intro _) | (with_reducible refine exP ?_ ?_))); all_goals (try omega)
  · rename_i hjn
    obtain ⟨b', o'', rfl, hwr'⟩ := hpa (by omega)
    refine semStep_zix (e := 9) (sz := 1) rfl (by kernel_rfl) (by rfl) (by rfl) (by omega) (by omega) (by simp [chk, hG]) ?_
    simp only [go_sem, hG, hOw, reduceIte, Nat.reduceLeDiff, Nat.le_refl, Nat.reduceEqDiff, Nat.reduceAdd, Nat.reduceLT, reduceCtorEq, Int.toNat_natCast]
    obtain ⟨x1, x2, x3, x4⟩ := hwr' j (by omega)
    refine semStep_zst (ag := false) rfl rfl (by kernel_rfl) (b := b') (off := o'' + j) (by simp [ev, go_sem]) (by rfl) x1 x2 x3 (fun w => x4 w _) ?_
    simp only [go_sem, hG, hOw, reduceIte, Nat.reduceLeDiff, Nat.le_refl, Nat.reduceEqDiff, Nat.reduceAdd, Nat.reduceLT, reduceCtorEq, Int.toNat_natCast]
    (repeat' (first | (with_reducible refine And.intro ?_ ?_) | (with_reducible intro _) | (with_reducible refine exP ?_ ?_))); all_goals (try omega)
    exact ⟨j + 1, by omega, by omega, ent_of0 (by (simp only [go_sem, reduceIte, Nat.reduceLeDiff, Nat.le_refl, Nat.reduceEqDiff, Nat.reduceAdd, Nat.reduceLT, reduceCtorEq, Int.toNat_natCast]) <;> simp) hNm⟩
  · refine call_X hX2 (SameWords_ok o o) (.cons (.ex _ _ f7) (.cons (.ex _ _ f0) .nil)) (.v _) (by simp [chk, hG]) ?_
    simp only [go_sem, hG, hOw, reduceIte, Nat.reduceLeDiff, Nat.le_refl, Nat.reduceEqDiff, Nat.reduceAdd, Nat.reduceLT, reduceCtorEq, Int.toNat_natCast]
    refine call_X hX2 (SameWords_ok a a) (.cons (.ex _ _ f8) (.cons (.ex _ _ f1) .nil)) (.v _) (by simp [chk, hG]) ?_
    simp only [go_sem, hG, hOw, reduceIte, Nat.reduceLeDiff, Nat.le_refl, Nat.reduceEqDiff, Nat.reduceAdd, Nat.reduceLT, reduceCtorEq, Int.toNat_natCast]
    refine ⟨fun _ => ?_, fun h => by simp at h⟩
    refine call_X hX2 (SameWords_ok b b) (.cons (.ex _ _ f9) (.cons (.ex _ _ f2) .nil)) (.v _) (by simp [chk, hG]) ?_
    simp only [go_sem, hG, hOw, reduceIte, Nat.reduceLeDiff, Nat.le_refl, Nat.reduceEqDiff, Nat.reduceAdd, Nat.reduceLT, reduceCtorEq, Int.toNat_natCast]
theorem gr_len {l : List ByteArray} (h : greatRows l = false) : l.length ≤ 1000 := by
  simp only [greatRows, Bool.or_eq_false_iff, decide_eq_false_iff_not] at h
  omega
theorem SheafMerges_ok (o a b : List ByteArray) : Gives Try.prog 5 [strs 0 o, strs 0 a, strs 0 b] (fun _ => bl true) := by
  refine pure_introL (fun i => [28, 31, 34].contains i) Try.func5 Try.ntmps5 rfl (by kernel_rfl) (by simp) rfl (by decide) fun G hG hOw hNm hZ hB => ?_
  refine vcN_sound 4 _ _ ?_
  simp only [go_sem, hG, hOw, reduceIte, Nat.reduceLeDiff, Nat.le_refl, Nat.reduceEqDiff, Nat.reduceAdd, Nat.reduceLT, reduceCtorEq, Int.toNat_natCast]
  refine call_pure (GreatRows_ok o) (by first | exact Subs.refl _ | (repeat' (first | exact Subs.nil | exact Sub.refl _ | exact Sub.lo (Nat.zero_le _) | refine Subs.cons ?_ ?_ | refine Subs.agg ?_ | refine Subs.tup ?_ | refine Sub.map (Nat.zero_le _) (fun _ => ?_)))) (by first | rfl | simp [allP, all0, pureV, pure0, *]) (by simp [chk, hG]) ?_
  simp only [go_sem, hG, hOw, reduceIte, Nat.reduceLeDiff, Nat.le_refl, Nat.reduceEqDiff, Nat.reduceAdd, Nat.reduceLT, reduceCtorEq, Int.toNat_natCast]
  (repeat' (first | (with_reducible refine And.intro ?_ ?_) | (with_reducible intro _) | (with_reducible refine exP ?_ ?_))); all_goals (try omega)
  rename_i ho
  refine call_pure (GreatRows_ok a) (by first | exact Subs.refl _ | (repeat' (first | exact Subs.nil | exact Sub.refl _ | exact Sub.lo (Nat.zero_le _) | refine Subs.cons ?_ ?_ | refine Subs.agg ?_ | refine Subs.tup ?_ | refine Sub.map (Nat.zero_le _) (fun _ => ?_)))) (by first | rfl | simp [allP, all0, pureV, pure0, *]) (by simp [chk, hG]) ?_
  simp only [go_sem, hG, hOw, reduceIte, Nat.reduceLeDiff, Nat.le_refl, Nat.reduceEqDiff, Nat.reduceAdd, Nat.reduceLT, reduceCtorEq, Int.toNat_natCast]
  (repeat' (first | (with_reducible refine And.intro ?_ ?_) | (with_reducible intro _) | (with_reducible refine exP ?_ ?_))); all_goals (try omega)
  rename_i ha
  refine call_pure (GreatRows_ok b) (by first | exact Subs.refl _ | (repeat' (first | exact Subs.nil | exact Sub.refl _ | exact Sub.lo (Nat.zero_le _) | refine Subs.cons ?_ ?_ | refine Subs.agg ?_ | refine Subs.tup ?_ | refine Sub.map (Nat.zero_le _) (fun _ => ?_)))) (by first | rfl | simp [allP, all0, pureV, pure0, *]) (by simp [chk, hG]) ?_
  simp only [go_sem, hG, hOw, reduceIte, Nat.reduceLeDiff, Nat.le_refl, Nat.reduceEqDiff, Nat.reduceAdd, Nat.reduceLT, reduceCtorEq, Int.toNat_natCast]
  have ho' := gr_len ho
  have ha' := gr_len ha
  intro hb
  have hb' := gr_len hb
  refine ⟨by omega, by omega, by omega, ?_⟩
  refine semL_ent (s' := St.of [(0, strs 0 o), (1, strs 0 a), (2, strs 0 b), (7, strs G.lo o), (8, strs G.lo a), (9, strs G.lo b)] []) (ent_of0 (by (simp only [go_sem, reduceIte, Nat.reduceLeDiff, Nat.le_refl, Nat.reduceEqDiff, Nat.reduceAdd, Nat.reduceLT, reduceCtorEq, Int.toNat_natCast]) <;> simp) hNm) ?_
  refine semL_exact hZ fun w1 O1 ys zs G1 g1 g2 g3 g4 g5 f1 f2 z1 z2 => ⟨rfl, rfl, ?_⟩
  let Fx : V → Value → Prop := fun x y => R0 w1 O1 x y
  have hX : XOK G1 w1.heap.size Fx := XOK.of (fun _ _ h => h) z1
  have lo0 : ∀ {sz : Nat} {lo : Nat} {rows : List (List V)} {y : Value}, Fx (.lst lo sz rows) y → Fx (.lst 0 sz rows) y := fun h => Sub.lo (Nat.zero_le _) _ _ _ h
  have x0 : Fx (strs 0 o) (ys 0) := f1 0 rfl
  have x1 : Fx (strs 0 a) (ys 1) := f1 1 rfl
  have x2 : Fx (strs 0 b) (ys 2) := f1 2 rfl
  have x7 : Fx (strs 0 o) (ys 7) := lo0 (f1 7 rfl)
  have x8 : Fx (strs 0 a) (ys 8) := lo0 (f1 8 rfl)
  have x9 : Fx (strs 0 b) (ys 9) := lo0 (f1 9 rfl)
  simp only [exF, exH, exOB, exCs, exOf, strs, hks, i64]
  generalize ys 0 = y0 at x0 ⊢
  generalize ys 1 = y1 at x1 ⊢
  generalize ys 2 = y2 at x2 ⊢
  generalize ys 7 = y7 at x7 ⊢
  generalize ys 8 = y8 at x8 ⊢
  generalize ys 9 = y9 at x9 ⊢
  refine vcN_sound 3 _ _ ?_
  rw [← g1] at hG
  rw [← g2] at hOw
  simp only [go_sem, hG, hOw, reduceIte, Nat.reduceLeDiff, Nat.le_refl, Nat.reduceEqDiff, Nat.reduceAdd, Nat.reduceLT, reduceCtorEq, Int.toNat_natCast]
  refine call_X hX (Merge_ok o a b ho' ha' hb') (.cons (.ex _ _ x7) (.cons (.ex _ _ x8) (.cons (.ex _ _ x9) .nil))) (.tup2 (hi_strs _ _) (.v _)) (by simp [chk, hG]) ?_
  simp only [go_sem, hG, hOw, reduceIte, Nat.reduceLeDiff, Nat.le_refl, Nat.reduceEqDiff, Nat.reduceAdd, Nat.reduceLT, reduceCtorEq, Int.toNat_natCast]
  refine call_X hX (MergeR_ok o a b ho' ha' hb') (.cons (.ex _ _ x0) (.cons (.ex _ _ x1) (.cons (.ex _ _ x2) .nil))) (.tup2 (hi_strs _ _) (.v _)) (by simp [chk, hG]) ?_
  simp only [go_sem, hG, hOw, reduceIte, Nat.reduceLeDiff, Nat.le_refl, Nat.reduceEqDiff, Nat.reduceAdd, Nat.reduceLT, reduceCtorEq, Int.toNat_natCast]
  refine call_X hX (SameWords_ok (mergeL o a b) (mergeL o a b)) (.cons (.pure _ _ rfl (Sub.lo (Nat.zero_le _))) (.cons (.pure _ _ rfl (Sub.lo (Nat.zero_le _))) .nil)) (.v _) (by simp [chk, hG]) ?_
  simp only [go_sem, hG, hOw, reduceIte, Nat.reduceLeDiff, Nat.le_refl, Nat.reduceEqDiff, Nat.reduceAdd, Nat.reduceLT, reduceCtorEq, Int.toNat_natCast]
  refine semL_ent (s' := St.of [(0, .v y0), (1, .v y1), (2, .v y2), (7, .v y7), (8, .v y8), (9, .v y9), (10, strs w1.heap.size (mergeL o a b)), (14, bl true)] []) (by rw [← g4] at hNm; exact ent_of0 (by (simp only [go_sem, reduceIte, Nat.reduceLeDiff, Nat.le_refl, Nat.reduceEqDiff, Nat.reduceAdd, Nat.reduceLT, reduceCtorEq, Int.toNat_natCast]) <;> simp) hNm) ?_
  exact lawM (mergeL o a b) hG hOw (g4.trans hNm) g5 (fun G2 h => XOK.of (fun _ _ h => h) (fun w hw => z1 w (h w hw))) z2 x0 x1 x2 x7 x8 x9
end Go.Proofs.Ytgienbcekgokiaa
