/- The document's answers: lines, rounds. -/
import Derived.Test.YtgeldamcekjdgaaH1
namespace Go.Proofs.Ytgeldamcekjdgaa
open Go Pm
set_option linter.unusedSimpArgs false
set_option linter.unusedVariables false
set_option maxHeartbeats 4000000
set_option maxRecDepth 100000
theorem linesL_step (t : List Ch) (k : Nat) (hk : k < t.length) : linesL (t.take (k + 1)) = linesL (t.take k) ++ t[k].lines := by
  unfold linesL
  rw [List.take_add_one, List.getElem?_eq_getElem hk, List.flatMap_append]; simp
theorem take_map_succ {α β : Type} (f : α → β) (l : List α) (k : Nat) (hk : k < l.length) : (l.map f).take (k + 1) = (l.map f).take k ++ [f l[k]] := by
  rw [List.take_add_one, List.getElem?_eq_getElem (by simpa using hk)]; simp
theorem linesL_len (t : List Ch) (ht : OKt t) (k : Nat) : (linesL (t.take k)).length ≤ 40 * k := by
  induction k with
  | zero => simp [linesL]
  | succ k ih =>
    by_cases hk : k < t.length
    · rw [linesL_step t k hk, List.length_append]
      have := (ht.2 _ (List.getElem_mem hk)).1
      omega
    · rw [List.take_of_length_le (by omega)] at ih ⊢
      omega
theorem linesL_all (t : List Ch) (ht : OKt t) : (linesL t).length ≤ 400 := by
  have := linesL_len t ht t.length
  rw [List.take_length] at this
  have := ht.1
  omega
theorem Lines_ok (t : List Ch) (ht : OKt t) : Gives Try.prog 33 [txE 0 t] (fun n => .lst n 1 ((linesL t).map (lnE 0))) := by
  have htt := ht
  obtain ⟨ht1, ht2⟩ := ht
  refine pure_intro (ow := fun _ => false) Try.func33 Try.ntmps33 rfl (by kernel_rfl) (by simp) rfl (by decide) fun G hG hOw hNm hB => ?_
  simp only [go_sem, hG, hOw, reduceIte, Nat.reduceLeDiff, Nat.le_refl, Nat.reduceEqDiff, Nat.reduceAdd, Nat.reduceLT, reduceCtorEq, Int.toNat_natCast]
  refine semC_loop (fun k : Nat => St.of [(1, .ptr 1 0), (3, .own 9 0 (linesL (t.take k)).length 1), (4, i64 k)] [(1, .box [chs 0 t]), (9, .arr 32 1 ((linesL (t.take k)).map (lnE 0)))]) (fun k => k ≤ t.length) (fun k => t.length - k) 0 (by simp) (ent_of [(1, some 1), (9, none)] (by (simp only [go_sem, reduceIte, Nat.reduceLeDiff, Nat.le_refl, Nat.reduceEqDiff, Nat.reduceAdd, Nat.reduceLT, reduceCtorEq, Int.toNat_natCast]) <;> simp [linesL]) (by (simp only [go_sem, entH, entH1, nilArr, obOK, reduceIte, Nat.reduceLeDiff, Nat.le_refl, Nat.reduceEqDiff, Nat.reduceAdd, Nat.reduceLT, reduceCtorEq, Int.toNat_natCast]) <;> simp [linesL]) (by simp [injR, apart]) (by simp [coverR, usH]) (by simp [hNm, lkR, names])) ?_
  rintro k hk
  refine vc_sound _ _ _ ?_; simp only [go_sem, hG, hOw, reduceIte, Nat.reduceLeDiff, Nat.le_refl, Nat.reduceEqDiff, Nat.reduceAdd, Nat.reduceLT, reduceCtorEq, Int.toNat_natCast]
  (repeat' (first | (with_reducible refine And.intro ?_ ?_) | (with_reducible intro _) | (with_reducible refine exP ?_ ?_))); all_goals (try omega)
  · rename_i hlt
    have hkl : k < t.length := by omega
    obtain ⟨hc1, hc2⟩ := ht2 _ (List.getElem_mem hkl)
    have hlen := linesL_len t htt k
    refine semC_loop (fun j : Nat => St.of [(1, .ptr 1 0), (3, .own 9 0 (linesL (t.take k) ++ t[k].lines.take j).length 1), (4, i64 k), (5, i64 j)] [(1, .box [chs 0 t]), (9, .arr 32 1 ((linesL (t.take k) ++ t[k].lines.take j).map (lnE 0)))]) (fun j => j ≤ t[k].lines.length) (fun j => t[k].lines.length - j) 0 (by simp) (ent_of [(1, some 1), (9, some 9)] (by (simp only [go_sem, reduceIte, Nat.reduceLeDiff, Nat.le_refl, Nat.reduceEqDiff, Nat.reduceAdd, Nat.reduceLT, reduceCtorEq, Int.toNat_natCast]) <;> simp) (by (simp only [go_sem, entH, entH1, nilArr, obOK, reduceIte, Nat.reduceLeDiff, Nat.le_refl, Nat.reduceEqDiff, Nat.reduceAdd, Nat.reduceLT, reduceCtorEq, Int.toNat_natCast]) <;> simp) (by simp [injR, apart]) (by simp [coverR, usH]) (by simp [hNm, lkR, names])) ?_
    rintro j hj
    have hl2 : (linesL (t.take k) ++ t[k].lines.take j).length = (linesL (t.take k)).length + j := by rw [List.length_append, List.length_take]; omega
    refine vc_sound _ _ _ ?_; simp only [go_sem, hG, hOw, reduceIte, Nat.reduceLeDiff, Nat.le_refl, Nat.reduceEqDiff, Nat.reduceAdd, Nat.reduceLT, reduceCtorEq, Int.toNat_natCast]
    (repeat' (first | (with_reducible refine And.intro ?_ ?_) | (with_reducible intro _) | (with_reducible refine exP ?_ ?_))); all_goals (try omega)
    · rename_i hlt2
      have hjl : j < t[k].lines.length := by omega
      have hmin : min j t[k].lines.length = j := Nat.min_eq_left hj
      have h1 := take_map_succ (lnE 0) t[k].lines j hjl
      have hmin2 : min (j + 1) t[k].lines.length = j + 1 := Nat.min_eq_left (by omega)
      exact ⟨j + 1, by omega, by omega, ent_of [(1, some 1), (9, some 35)] (by (simp only [go_sem, reduceIte, Nat.reduceLeDiff, Nat.le_refl, Nat.reduceEqDiff, Nat.reduceAdd, Nat.reduceLT, reduceCtorEq, Int.toNat_natCast]) <;> simp [h1,hmin,hmin2,Nat.add_assoc,lnE,strs]) (by (simp only [go_sem, entH, entH1, nilArr, obOK, reduceIte, Nat.reduceLeDiff, Nat.le_refl, Nat.reduceEqDiff, Nat.reduceAdd, Nat.reduceLT, reduceCtorEq, Int.toNat_natCast]) <;> simp [h1,hmin,hmin2,Nat.add_assoc,lnE,strs]) (by simp [injR, apart]) (by simp [coverR, usH]) (by simp [hNm, lkR, names])⟩
    · rename_i hge2
      have hj2 : j = t[k].lines.length := by omega
      refine ⟨k + 1, by omega, by omega, ?_⟩
      rw [linesL_step t k hkl, hj2, List.take_length]
      exact ent_of [(1, some 1), (9, some 9)] (by (simp only [go_sem, reduceIte, Nat.reduceLeDiff, Nat.le_refl, Nat.reduceEqDiff, Nat.reduceAdd, Nat.reduceLT, reduceCtorEq, Int.toNat_natCast]) <;> simp) (by (simp only [go_sem, entH, entH1, nilArr, obOK, reduceIte, Nat.reduceLeDiff, Nat.le_refl, Nat.reduceEqDiff, Nat.reduceAdd, Nat.reduceLT, reduceCtorEq, Int.toNat_natCast]) <;> simp) (by simp [injR, apart]) (by simp [coverR, usH]) (by simp [hNm, lkR, names])
  · rename_i hge
    rw [take_full hk hge]
    exact .refl _
end Go.Proofs.Ytgeldamcekjdgaa
