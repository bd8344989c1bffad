/- The law of shelves. -/
import Derived.Test.YtgienbcekgokiaaF9
import Derived.Test.YtgienbcekgokiaaF5
import Derived.Test.YtgienbcekgokiaaL0
namespace Go.Proofs.Ytgienbcekgokiaa
open Go Pm
set_option linter.unusedSimpArgs false
set_option linter.unusedVariables false
set_option maxHeartbeats 4000000
set_option maxRecDepth 100000
theorem hi_strs (N : Nat) (l : List ByteArray) : Hi N (strs N l) := .map (Nat.le_refl _) fun x j u h => by
  match j with
  | 0 => simp [strE] at h; subst h; exact .v _
  | j + 1 => simp [strE] at h
theorem hi_hks (N : Nat) (l : List Hk) : Hi N (hks N l) := .map (Nat.le_refl _) fun x j u h => by
  match j with
  | 0 => simp [hkE] at h; subst h; exact .v _
  | 1 => simp [hkE] at h; subst h; exact .v _
  | 2 => simp [hkE] at h; subst h; exact hi_strs N _
  | j + 3 => simp [hkE] at h
theorem hi_sh (N : Nat) (s : Sh) : Hi N (shE N s) := .agg2 (hi_strs _ _) (hi_hks _ _)
theorem sub_sh (N : Nat) (s : Sh) : Pm.Sub (shE N s) (shE 0 s) := Subs.agg (.cons (Sub.lo (Nat.zero_le _)) (.cons (Sub.map (Nat.zero_le _) (fun x => .cons (.refl _) (.cons (.refl _) (.cons (Sub.lo (Nat.zero_le _)) .nil)))) .nil))
theorem SheafShelves_ok (s : Sh) (l : List ByteArray) (n : Int) : Gives Try.prog 3 [shE 0 s, strs 0 l, i64 n] (fun _ => bl true) := by
  refine pure_introL (fun i => [37, 39].contains i) Try.func3 Try.ntmps3 rfl (by kernel_rfl) (by simp) rfl (by decide) fun G hG hOw hNm hZ hB => ?_
  refine vcN_sound 4 _ _ ?_
  simp only [go_sem, hG, hOw, reduceIte, Nat.reduceLeDiff, Nat.le_refl, Nat.reduceEqDiff, Nat.reduceAdd, Nat.reduceLT, reduceCtorEq, Int.toNat_natCast]
  refine call_pure (GreatShelf_ok s) (by first | exact Subs.refl _ | (repeat' (first | exact Subs.nil | exact Sub.refl _ | exact Sub.lo (Nat.zero_le _) | refine Subs.cons ?_ ?_ | refine Subs.agg ?_ | refine Subs.tup ?_ | refine Sub.map (Nat.zero_le _) (fun _ => ?_)))) (by first | rfl | simp [allP, all0, pureV, pure0, *]) (by simp [chk, hG]) ?_
  simp only [go_sem, hG, hOw, reduceIte, Nat.reduceLeDiff, Nat.le_refl, Nat.reduceEqDiff, Nat.reduceAdd, Nat.reduceLT, reduceCtorEq, Int.toNat_natCast]
  intro hgs
  refine call_pure (GreatRows_ok l) (by first | exact Subs.refl _ | (repeat' (first | exact Subs.nil | exact Sub.refl _ | exact Sub.lo (Nat.zero_le _) | refine Subs.cons ?_ ?_ | refine Subs.agg ?_ | refine Subs.tup ?_ | refine Sub.map (Nat.zero_le _) (fun _ => ?_)))) (by first | rfl | simp [allP, all0, pureV, pure0, *]) (by simp [chk, hG]) ?_
  simp only [go_sem, hG, hOw, reduceIte, Nat.reduceLeDiff, Nat.le_refl, Nat.reduceEqDiff, Nat.reduceAdd, Nat.reduceLT, reduceCtorEq, Int.toNat_natCast]
  have hs1 : s.first.length ≤ 1000 ∧ s.chg.length ≤ 1000 ∧ ∀ c ∈ s.chg, c.put.length ≤ 1000 := by
    simp only [greatShelf, greatRows, Bool.or_eq_false_iff, decide_eq_false_iff_not, List.any_eq_false] at hgs
    refine ⟨by omega, by omega, fun c hc => ?_⟩
    have := hgs.2 c hc
    simp only [Bool.not_eq_true, Bool.or_eq_false_iff, decide_eq_false_iff_not] at this
    omega
  obtain ⟨h1, h2, h3⟩ := hs1
  (repeat' (first | (with_reducible refine And.intro ?_ ?_) | (with_reducible intro _) | (with_reducible refine exP ?_ ?_))); all_goals (try omega)
  rename_i hgr
  have h4 : l.length ≤ 1000 := by
    simp only [hgs, Bool.false_eq_true, false_or, Bool.false_or, Bool.or_false, cond_false, greatRows, Bool.or_eq_false_iff, decide_eq_false_iff_not] at hgr
    omega
  refine call_pure (TwinShelf_ok s h1 h2 h3) (by first | exact Subs.refl _ | (repeat' (first | exact Subs.nil | exact Sub.refl _ | exact Sub.lo (Nat.zero_le _) | refine Subs.cons ?_ ?_ | refine Subs.agg ?_ | refine Subs.tup ?_ | refine Sub.map (Nat.zero_le _) (fun _ => ?_)))) (by first | rfl | simp [allP, all0, pureV, pure0, *]) (by simp [chk, hG]) ?_
  simp only [go_sem, hG, hOw, reduceIte, Nat.reduceLeDiff, Nat.le_refl, Nat.reduceEqDiff, Nat.reduceAdd, Nat.reduceLT, reduceCtorEq, Int.toNat_natCast]
  (repeat' (first | (with_reducible refine And.intro ?_ ?_) | (with_reducible intro _) | (with_reducible refine exP ?_ ?_))); all_goals (try omega)
  refine semL_ent (s' := St.of [(1, strs 0 l), (2, i64 n), (3, .ptr 3 0), (7, .ptr 7 0), (8, strs G.lo l)] [(3, .box [strs 0 s.first, hks 0 s.chg]), (7, .box [strs G.lo s.first, hks G.lo s.chg])]) (ent_of [(3, some 3), (7, some 7)] (by (simp only [go_sem, reduceIte, Nat.reduceLeDiff, Nat.le_refl, Nat.reduceEqDiff, Nat.reduceAdd, Nat.reduceLT, reduceCtorEq, Int.toNat_natCast]) <;> simp) (by (simp only [go_sem, entH, entH1, nilArr, obOK, reduceIte, Nat.reduceLeDiff, Nat.le_refl, Nat.reduceEqDiff, Nat.reduceAdd, Nat.reduceLT, reduceCtorEq, Int.toNat_natCast]) <;> simp) (by simp [injR, apart]) (by simp [coverR, usH]) (by simp [hNm, lkR, names])) ?_
  refine semL_exact hZ fun w1 O1 ys zs G1 g1 g2 g3 g4 g5 f1 f2 z1 z2 => ⟨rfl, rfl, ?_⟩
  let Fx : V → Value → Prop := fun x y => R0 w1 O1 x y
  have hX : XOK G1 w1.heap.size Fx := XOK.of (fun _ _ h => h) z1
  have lo0 : ∀ {sz : Nat} {lo : Nat} {rows : List (List V)} {y : Value}, Fx (.lst lo sz rows) y → Fx (.lst 0 sz rows) y := fun h => Sub.lo (Nat.zero_le _) _ _ _ h
  have fl1 : Fx (strs 0 l) (ys 1) := f1 1 rfl
  have fl8 : Fx (strs 0 l) (ys 8) := lo0 (f1 8 rfl)
  have fa1 : Fx (strs 0 s.first) (zs 3 0) := f2 3 _ 0 _ rfl rfl rfl
  have fa2 : Fx (hks 0 s.chg) (zs 3 1) := f2 3 _ 1 _ rfl rfl rfl
  have fb1 : Fx (strs 0 s.first) (zs 7 0) := lo0 (f2 7 _ 0 _ rfl rfl rfl)
  have fb2 : Fx (hks 0 s.chg) (zs 7 1) := lo0 (Sub.map (Nat.le_refl _) (fun x => .cons (.refl _) (.cons (.refl _) (.cons (Sub.lo (Nat.zero_le _)) .nil))) _ _ _ (f2 7 _ 1 _ rfl rfl rfl))
  simp only [exF, exH, exOB, exCs, exOf, strs, hks, i64]
  generalize ys 1 = y1 at fl1 ⊢
  generalize ys 8 = y8 at fl8 ⊢
  generalize zs 3 0 = a1 at fa1 ⊢
  generalize zs 3 1 = a2 at fa2 ⊢
  generalize zs 7 0 = b1 at fb1 ⊢
  generalize zs 7 1 = b2 at fb2 ⊢
  refine vcN_sound 7 _ _ ?_
  rw [← g1] at hG
  rw [← g2] at hOw
  simp only [go_sem, hG, hOw, reduceIte, Nat.reduceLeDiff, Nat.le_refl, Nat.reduceEqDiff, Nat.reduceAdd, Nat.reduceLT, reduceCtorEq, Int.toNat_natCast]
  have own : AX Fx (.agg [.v b1, .v b2]) (shE 0 s) := .agg2 _ _ _ _ (.ex _ _ fb1) (.ex _ _ fb2)
  have arg : AX Fx (.agg [.v a1, .v a2]) (shE 0 s) := .agg2 _ _ _ _ (.ex _ _ fa1) (.ex _ _ fa2)
  have int : ∀ n, AX Fx (i64 n) (i64 n) := fun n => .pure _ _ rfl (.refl _)
  refine call_X hX (Save_ok s l h1 h3 h4) (.cons own (.cons (.ex _ _ fl8) .nil)) (.tup2 (hi_sh _ _) (.v _)) (by simp [chk, hG]) ?_
  simp only [go_sem, hG, hOw, reduceIte, Nat.reduceLeDiff, Nat.le_refl, Nat.reduceEqDiff, Nat.reduceAdd, Nat.reduceLT, reduceCtorEq, Int.toNat_natCast]
  refine call_X hX (SaveR_ok s l h1 h3 h4) (.cons arg (.cons (.ex _ _ fl1) .nil)) (.tup2 (hi_sh _ _) (.v _)) (by simp [chk, hG]) ?_
  simp only [go_sem, hG, hOw, reduceIte, Nat.reduceLeDiff, Nat.le_refl, Nat.reduceEqDiff, Nat.reduceAdd, Nat.reduceLT, reduceCtorEq, Int.toNat_natCast]
  refine call_X hX (Back_ok s n h1 h3) (.cons own (.cons (int n) .nil)) (.tup2 (hi_strs _ _) (.v _)) (by simp [chk, hG]) ?_
  simp only [go_sem, hG, hOw, reduceIte, Nat.reduceLeDiff, Nat.le_refl, Nat.reduceEqDiff, Nat.reduceAdd, Nat.reduceLT, reduceCtorEq, Int.toNat_natCast]
  refine call_X hX (BackR_ok s n h1 h3) (.cons arg (.cons (int n) .nil)) (.tup2 (hi_strs _ _) (.v _)) (by simp [chk, hG]) ?_
  simp only [go_sem, hG, hOw, reduceIte, Nat.reduceLeDiff, Nat.le_refl, Nat.reduceEqDiff, Nat.reduceAdd, Nat.reduceLT, reduceCtorEq, Int.toNat_natCast]
  refine call_X hX (Prune_ok s n h1 h3) (.cons own (.cons (int n) .nil)) (.tup2 (hi_sh _ _) (.v _)) (by simp [chk, hG]) ?_
  simp only [go_sem, hG, hOw, reduceIte, Nat.reduceLeDiff, Nat.le_refl, Nat.reduceEqDiff, Nat.reduceAdd, Nat.reduceLT, reduceCtorEq, Int.toNat_natCast]
  refine call_X hX (PruneR_ok s n h1 h2 h3) (.cons arg (.cons (int n) .nil)) (.tup2 (hi_sh _ _) (.v _)) (by simp [chk, hG]) ?_
  simp only [go_sem, hG, hOw, reduceIte, Nat.reduceLeDiff, Nat.le_refl, Nat.reduceEqDiff, Nat.reduceAdd, Nat.reduceLT, reduceCtorEq, Int.toNat_natCast]
  refine semC_draw0 mixed (by kernel_rfl) ?_
  simp only [go_sem, hG, hOw, reduceIte, Nat.reduceLeDiff, Nat.le_refl, Nat.reduceEqDiff, Nat.reduceAdd, Nat.reduceLT, reduceCtorEq, Int.toNat_natCast]
  refine ⟨_, callX hX (CheckShelf_ok s h1 h3) (.cons own .nil) (.v _), ?_⟩
  simp only [go_sem, hG, hOw, reduceIte, Nat.reduceLeDiff, Nat.le_refl, Nat.reduceEqDiff, Nat.reduceAdd, Nat.reduceLT, reduceCtorEq, Int.toNat_natCast]
  refine ⟨_, callX hX (CheckShelfR_ok s h1 h3) (.cons arg .nil) (.v _), ?_⟩
  simp only [go_sem, hG, hOw, reduceIte, Nat.reduceLeDiff, Nat.le_refl, Nat.reduceEqDiff, Nat.reduceAdd, Nat.reduceLT, reduceCtorEq, Int.toNat_natCast]
  refine ⟨_, callX hX (SameShelf_ok (saveS s l) (saveS s l)) (.cons (.pure _ _ rfl (sub_sh _ _)) (.cons (.pure _ _ rfl (sub_sh _ _)) .nil)) (.v _), ?_⟩
  simp only [go_sem, hG, hOw, reduceIte, Nat.reduceLeDiff, Nat.le_refl, Nat.reduceEqDiff, Nat.reduceAdd, Nat.reduceLT, reduceCtorEq, Int.toNat_natCast]
  refine ⟨_, callX hX (SameWords_ok (backL s n) (backL s n)) (.cons (.pure _ _ rfl (Sub.lo (Nat.zero_le _))) (.cons (.pure _ _ rfl (Sub.lo (Nat.zero_le _))) .nil)) (.v _), ?_⟩
  simp only [go_sem, hG, hOw, reduceIte, Nat.reduceLeDiff, Nat.le_refl, Nat.reduceEqDiff, Nat.reduceAdd, Nat.reduceLT, reduceCtorEq, Int.toNat_natCast]
  refine ⟨_, callX hX (SameShelf_ok (pruneS s n) (pruneS s n)) (.cons (.pure _ _ rfl (sub_sh _ _)) (.cons (.pure _ _ rfl (sub_sh _ _)) .nil)) (.v _), ?_⟩
  simp only [go_sem, hG, hOw, reduceIte, Nat.reduceLeDiff, Nat.le_refl, Nat.reduceEqDiff, Nat.reduceAdd, Nat.reduceLT, reduceCtorEq, Int.toNat_natCast]
  refine semL_ent (s' := St.of [(1, .v y1), (2, i64 n), (3, .ptr 3 0), (7, .ptr 7 0), (8, .v y8), (9, .ptr 9 0), (13, strs w1.heap.size (backL s n)), (17, .ptr 17 0), (21, bl true)]
    [(3, .box [.v a1, .v a2]), (7, .box [.v b1, .v b2]), (9, .box [strs w1.heap.size (saveS s l).first, hks w1.heap.size (saveS s l).chg]), (17, .box [strs w1.heap.size (pruneS s n).first, hks w1.heap.size (pruneS s n).chg])]) (by rw [← g4] at hNm; exact ent_of [(3, some 3), (7, some 7), (9, some 9), (17, some 17)] (by (simp only [go_sem, reduceIte, Nat.reduceLeDiff, Nat.le_refl, Nat.reduceEqDiff, Nat.reduceAdd, Nat.reduceLT, reduceCtorEq, Int.toNat_natCast]) <;> simp) (by (simp only [go_sem, entH, entH1, nilArr, obOK, reduceIte, Nat.reduceLeDiff, Nat.le_refl, Nat.reduceEqDiff, Nat.reduceAdd, Nat.reduceLT, reduceCtorEq, Int.toNat_natCast]) <;> simp) (by simp [injR, apart]) (by simp [coverR, usH]) (by simp [hNm, lkR, names])) ?_
  exact lawC (backL s n) (saveS s l) (pruneS s n) hG hOw (g4.trans hNm) g5 (fun G2 h => XOK.of (fun _ _ h => h) (fun w hw => z1 w (h w hw))) z2 own arg fl1 fl8
end Go.Proofs.Ytgienbcekgokiaa
