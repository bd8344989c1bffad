/- The program: rows; lists in new memory. -/
import Derived.Test.YtgienbcekgokiaaF6
import Derived.Test.YtgienbcekgokiaaSp2

namespace Go.Proofs.Ytgienbcekgokiaa
open Go Pm
set_option linter.unusedSimpArgs false
set_option linter.unusedVariables false
set_option maxHeartbeats 4000000
set_option maxRecDepth 100000
theorem in1_ok (n lo hi : Int) : Gives Try.prog 65 [i64 n, .fp [i64 lo], .fp [i64 hi]] (fun _ => bl (decide (n < lo) || decide (hi < n))) := by
  refine pure_intro (ow := fun _ => false) Try.func65 Try.ntmps65 rfl (by kernel_rfl) (by simp) rfl (by decide) fun G hG hOw hNm hB => ?_; simp only [go_sem, hG, hOw, reduceIte, Nat.reduceLeDiff, Nat.le_refl, Nat.reduceEqDiff, Nat.reduceAdd, Nat.reduceLT, reduceCtorEq, Int.toNat_natCast]
  (repeat' (first | (with_reducible refine And.intro ?_ ?_) | (with_reducible intro _) | (with_reducible refine exP ?_ ?_))); all_goals (try omega)
  · rename_i h; rw [decide_eq_false h]; rfl
  · rename_i h; rw [decide_eq_true h]; rfl
theorem in_ok (lo hi : Int) (l : List Int) : Gives Try.prog 50 [i64 lo, i64 hi, .lst 0 1 (l.map intE)] (fun _ => bl (l.all fun n => decide (lo ≤ n) && decide (n ≤ hi))) := by
  refine pure_intro (ow := fun _ => false) Try.func50 Try.ntmps50 rfl (by kernel_rfl) (by simp) rfl (by decide) fun G hG hOw hNm hB => ?_; simp only [go_sem, hG, hOw, reduceIte, Nat.reduceLeDiff, Nat.le_refl, Nat.reduceEqDiff, Nat.reduceAdd, Nat.reduceLT, reduceCtorEq, Int.toNat_natCast]
  refine call_frz (fun i => [3, 4].contains i) ?_
  simp only [go_sem, hG, hOw, reduceIte, Nat.reduceLeDiff, Nat.le_refl, Nat.reduceEqDiff, Nat.reduceAdd, Nat.reduceLT, reduceCtorEq, Int.toNat_natCast]
  refine call_pure (ContainsFunc_Int _ [.fp [i64 lo], .fp [i64 hi]] (fun n => decide (n < lo) || decide (hi < n)) l rfl (fun x _ => in1_ok x lo hi)) (by first | exact Subs.refl _ | (repeat' (first | exact Subs.nil | exact Sub.refl _ | exact Sub.lo (Nat.zero_le _) | refine Subs.cons ?_ ?_ | refine Subs.agg ?_ | refine Subs.fp ?_ | refine Subs.tup ?_ | refine Sub.map (Nat.zero_le _) (fun _ => ?_)))) (by first | rfl | simp [allP, all0, pureV, pure0, *]) (by simp [chk, hG]) ?_
  simp only [go_sem, hG, hOw, reduceIte, Nat.reduceLeDiff, Nat.le_refl, Nat.reduceEqDiff, Nat.reduceAdd, Nat.reduceLT, reduceCtorEq, Int.toNat_natCast]
  rw [List.not_any_eq_all_not]
  congr 1
  funext n
  rw [Bool.eq_iff_iff]; simp
theorem one1_ok (b : UInt8) : Gives Try.prog 60 [.v (.int .u8 b.toNat)] (fun _ => bl (!byteOK b)) := by
  refine pure_intro (ow := fun _ => false) Try.func60 Try.ntmps60 rfl (by kernel_rfl) (by simp) rfl (by decide) fun G hG hOw hNm hB => ?_; simp only [go_sem, hG, hOw, reduceIte, Nat.reduceLeDiff, Nat.le_refl, Nat.reduceEqDiff, Nat.reduceAdd, Nat.reduceLT, reduceCtorEq, Int.toNat_natCast]
  (repeat' (first | (with_reducible refine And.intro ?_ ?_) | (with_reducible intro _) | (with_reducible refine exP ?_ ?_))); all_goals (try omega)
  · rename_i h; simp [byteOK]; intro; omega
  · rename_i h; simp [byteOK]; omega
theorem in_one (lo hi n : Int) : Gives Try.prog 50 [i64 lo, i64 hi, .lst 0 1 [[i64 n]]] (fun _ => bl (decide (lo ≤ n) && decide (n ≤ hi))) := by
  have := in_ok lo hi [n]
  simpa [intE] using this
theorem one_ok (s : ByteArray) : Gives Try.prog 43 [.v (.string s)] (fun _ => bl (rowB s)) := by
  refine pure_intro (ow := fun _ => false) Try.func43 Try.ntmps43 rfl (by kernel_rfl) (by simp) rfl (by decide) fun G hG hOw hNm hB => ?_; simp only [go_sem, hG, hOw, reduceIte, Nat.reduceLeDiff, Nat.le_refl, Nat.reduceEqDiff, Nat.reduceAdd, Nat.reduceLT, reduceCtorEq, Int.toNat_natCast]
  refine call_pure (in_one 1 160 s.size) (by first | exact Subs.refl _ | (repeat' (first | exact Subs.nil | exact Sub.refl _ | exact Sub.lo (Nat.zero_le _) | refine Subs.cons ?_ ?_ | refine Subs.agg ?_ | refine Subs.fp ?_ | refine Subs.tup ?_ | refine Sub.map (Nat.zero_le _) (fun _ => ?_)))) (by first | rfl | simp [allP, all0, pureV, pure0, *]) (by simp [chk, hG]) ?_
  simp only [go_sem, hG, hOw, reduceIte, Nat.reduceLeDiff, Nat.le_refl, Nat.reduceEqDiff, Nat.reduceAdd, Nat.reduceLT, reduceCtorEq, Int.toNat_natCast]
  (repeat' (first | (with_reducible refine And.intro ?_ ?_) | (with_reducible intro _) | (with_reducible refine exP ?_ ?_))); all_goals (try omega)
  · rename_i h
    simp at h
    omega
  · rename_i h
    refine call_pure (ContainsFunc_Byte _ [] (fun b => !byteOK b) s.data.toList rfl (fun b _ => one1_ok b)) (by first | exact Subs.refl _ | (repeat' (first | exact Subs.nil | exact Sub.refl _ | exact Sub.lo (Nat.zero_le _) | refine Subs.cons ?_ ?_ | refine Subs.agg ?_ | refine Subs.fp ?_ | refine Subs.tup ?_ | refine Sub.map (Nat.zero_le _) (fun _ => ?_)))) (by first | rfl | simp [allP, all0, pureV, pure0, *]) (by simp [chk, hG]) ?_
    simp only [go_sem, hG, hOw, reduceIte, Nat.reduceLeDiff, Nat.le_refl, Nat.reduceEqDiff, Nat.reduceAdd, Nat.reduceLT, reduceCtorEq, Int.toNat_natCast]
    unfold rowB
    rw [h, List.not_any_eq_all_not]
    simp
  · rename_i h
    unfold rowB
    rw [h]; rfl
theorem Check1_ok (s : ByteArray) : Gives Try.prog 42 [.v (.string s)] (fun _ => bl (!rowB s)) := by
  refine pure_intro (ow := fun _ => false) Try.func42 Try.ntmps42 rfl (by kernel_rfl) (by simp) rfl (by decide) fun G hG hOw hNm hB => ?_; simp only [go_sem, hG, hOw, reduceIte, Nat.reduceLeDiff, Nat.le_refl, Nat.reduceEqDiff, Nat.reduceAdd, Nat.reduceLT, reduceCtorEq, Int.toNat_natCast]
  refine call_pure (one_ok s) (by first | exact Subs.refl _ | (repeat' (first | exact Subs.nil | exact Sub.refl _ | exact Sub.lo (Nat.zero_le _) | refine Subs.cons ?_ ?_ | refine Subs.agg ?_ | refine Subs.fp ?_ | refine Subs.tup ?_ | refine Sub.map (Nat.zero_le _) (fun _ => ?_)))) (by first | rfl | simp [allP, all0, pureV, pure0, *]) (by simp [chk, hG]) ?_
  simp only [go_sem, hG, hOw, reduceIte, Nat.reduceLeDiff, Nat.le_refl, Nat.reduceEqDiff, Nat.reduceAdd, Nat.reduceLT, reduceCtorEq, Int.toNat_natCast]
theorem Check_ok (l : List ByteArray) : Gives Try.prog 23 [strs 0 l] (fun _ => i64 (if rowsB l = true then 0 else 110)) := by
  refine pure_intro (ow := fun _ => false) Try.func23 Try.ntmps23 rfl (by kernel_rfl) (by simp) rfl (by decide) fun G hG hOw hNm hB => ?_; simp only [go_sem, hG, hOw, reduceIte, Nat.reduceLeDiff, Nat.le_refl, Nat.reduceEqDiff, Nat.reduceAdd, Nat.reduceLT, reduceCtorEq, Int.toNat_natCast]
  (repeat' (first | (with_reducible refine And.intro ?_ ?_) | (with_reducible intro _) | (with_reducible refine exP ?_ ?_))); all_goals (try omega)
  · rename_i h
    refine call_pure (ContainsFunc_Str _ [] (fun s => !rowB s) l rfl (fun s _ => Check1_ok s)) (by first | exact Subs.refl _ | (repeat' (first | exact Subs.nil | exact Sub.refl _ | exact Sub.lo (Nat.zero_le _) | refine Subs.cons ?_ ?_ | refine Subs.agg ?_ | refine Subs.fp ?_ | refine Subs.tup ?_ | refine Sub.map (Nat.zero_le _) (fun _ => ?_)))) (by first | rfl | simp [allP, all0, pureV, pure0, *]) (by simp [chk, hG]) ?_
    simp only [go_sem, hG, hOw, reduceIte, Nat.reduceLeDiff, Nat.le_refl, Nat.reduceEqDiff, Nat.reduceAdd, Nat.reduceLT, reduceCtorEq, Int.toNat_natCast]
    have e : rowsB l = !(l.any fun s => !rowB s) := by
      unfold rowsB
      rw [List.not_any_eq_all_not, decide_eq_true (by omega), Bool.and_true]
      simp
    (repeat' (first | (with_reducible refine And.intro ?_ ?_) | (with_reducible intro _) | (with_reducible refine exP ?_ ?_))); all_goals (try omega)
    · rename_i h2; rw [e, h2]; rfl
    · rename_i h2; rw [e, h2]; rfl
  · rename_i h
    unfold rowsB
    rw [decide_eq_false (by omega), Bool.and_false]; rfl
theorem Clone_ok (l : List ByteArray) (hl : l.length ≤ 1000) : Gives Try.prog 45 [strs 0 l] (fun n => strs n l) := by
  refine pure_intro (ow := fun _ => false) Try.func45 Try.ntmps45 rfl (by kernel_rfl) (by simp) rfl (by decide) fun G hG hOw hNm hB => ?_; simp only [go_sem, hG, hOw, reduceIte, Nat.reduceLeDiff, Nat.le_refl, Nat.reduceEqDiff, Nat.reduceAdd, Nat.reduceLT, reduceCtorEq, Int.toNat_natCast]
  (repeat' (first | (with_reducible refine And.intro ?_ ?_) | (with_reducible intro _) | (with_reducible refine exP ?_ ?_))); all_goals (try omega)
  · rename_i b h1 h2
    rw [show l = [] by simpa using h1 h2]
    exact .nil _ _
theorem Grow_ok (n : Int) (h0 : 0 ≤ n) (hn : n ≤ 100000) : Tri Try.prog 79 [.v (.slice none 0 0), i64 n] [] (fun _ => .ret (.own 0 0 0 1) [(0, .arr 9 1 [])]) := by
  refine tri_intro (fun i => [25].contains i) Try.func79 Try.ntmps79 rfl (by kernel_rfl) (by simp) rfl (by decide) fun G hG hOw hNm => ?_; simp only [go_sem, hG, hOw, reduceIte, Nat.reduceLeDiff, Nat.le_refl, Nat.reduceEqDiff, Nat.reduceAdd, Nat.reduceLT, reduceCtorEq, Int.toNat_natCast]
  (repeat' (first | (with_reducible refine And.intro ?_ ?_) | (with_reducible intro _) | (with_reducible refine exP ?_ ?_))); all_goals (try omega)
  · refine appendN_step (d := 22) (el := 9) (sz := 1) (k := .i64) (n := n) (z := [.string ByteArray.empty]) (bytes := 16) rfl (by simp only [go_sem, reduceIte, Nat.reduceLeDiff, Nat.le_refl, Nat.reduceEqDiff, Nat.reduceAdd, Nat.reduceLT, reduceCtorEq, Int.toNat_natCast]) (by simp only [go_sem, reduceIte, Nat.reduceLeDiff, Nat.le_refl, Nat.reduceEqDiff, Nat.reduceAdd, Nat.reduceLT, reduceCtorEq, Int.toNat_natCast]) rfl (by simp [hG]) (by simp only [go_sem, reduceIte, Nat.reduceLeDiff, Nat.le_refl, Nat.reduceEqDiff, Nat.reduceAdd, Nat.reduceLT, reduceCtorEq, Int.toNat_natCast]) (by simp only [go_sem, reduceIte, Nat.reduceLeDiff, Nat.le_refl, Nat.reduceEqDiff, Nat.reduceAdd, Nat.reduceLT, reduceCtorEq, Int.toNat_natCast]) (by simp only [go_sem, reduceIte, Nat.reduceLeDiff, Nat.le_refl, Nat.reduceEqDiff, Nat.reduceAdd, Nat.reduceLT, reduceCtorEq, Int.toNat_natCast]) (by simp only [go_sem, reduceIte, Nat.reduceLeDiff, Nat.le_refl, Nat.reduceEqDiff, Nat.reduceAdd, Nat.reduceLT, reduceCtorEq, Int.toNat_natCast]) rfl (by simp only [go_sem, reduceIte, Nat.reduceLeDiff, Nat.le_refl, Nat.reduceEqDiff, Nat.reduceAdd, Nat.reduceLT, reduceCtorEq, Int.toNat_natCast]) (by decide) (by omega) (by omega) (by omega) ?_
    simp only [go_sem, hG, hOw, reduceIte, Nat.reduceLeDiff, Nat.le_refl, Nat.reduceEqDiff, Nat.reduceAdd, Nat.reduceLT, reduceCtorEq, Int.toNat_natCast]
    refine slice_take (d := 25) (id := 22) (el := 9) (sz := 1) (len := n.toNat) (k := .i64) (n := 0) (l := List.replicate n.toNat [.v (.string ByteArray.empty)]) rfl (by simp only [go_sem, reduceIte, Nat.reduceLeDiff, Nat.le_refl, Nat.reduceEqDiff, Nat.reduceAdd, Nat.reduceLT, reduceCtorEq, Int.toNat_natCast]) (by simp only [go_sem, reduceIte, Nat.reduceLeDiff, Nat.le_refl, Nat.reduceEqDiff, Nat.reduceAdd, Nat.reduceLT, reduceCtorEq, Int.toNat_natCast]) (by simp only [go_sem, reduceIte, Nat.reduceLeDiff, Nat.le_refl, Nat.reduceEqDiff, Nat.reduceAdd, Nat.reduceLT, reduceCtorEq, Int.toNat_natCast]) rfl (by simp [hG]) (by simp only [go_sem, reduceIte, Nat.reduceLeDiff, Nat.le_refl, Nat.reduceEqDiff, Nat.reduceAdd, Nat.reduceLT, reduceCtorEq, Int.toNat_natCast]) (by simp only [go_sem, reduceIte, Nat.reduceLeDiff, Nat.le_refl, Nat.reduceEqDiff, Nat.reduceAdd, Nat.reduceLT, reduceCtorEq, Int.toNat_natCast]) (by simp only [go_sem, reduceIte, Nat.reduceLeDiff, Nat.le_refl, Nat.reduceEqDiff, Nat.reduceAdd, Nat.reduceLT, reduceCtorEq, Int.toNat_natCast]) (by omega) (by omega) (by simp) ?_
    simp only [go_sem, hG, hOw, reduceIte, Nat.reduceLeDiff, Nat.le_refl, Nat.reduceEqDiff, Nat.reduceAdd, Nat.reduceLT, reduceCtorEq, Int.toNat_natCast]
    exact ⟨[(0, some 25)], by (simp only [EndT, go_sem, entH, entH1, nilArr, obOK, apart, injR, coverR, reduceIte, Nat.reduceLeDiff, Nat.le_refl, Nat.reduceEqDiff, Nat.reduceAdd, Nat.reduceLT, reduceCtorEq, Int.toNat_natCast]) <;> simp⟩
  · exact ⟨[(0, none)], by (simp only [EndT, go_sem, entH, entH1, nilArr, obOK, apart, injR, coverR, reduceIte, Nat.reduceLeDiff, Nat.le_refl, Nat.reduceEqDiff, Nat.reduceAdd, Nat.reduceLT, reduceCtorEq, Int.toNat_natCast]) <;> simp⟩
theorem Concat_ok (ls : List (List ByteArray)) (h : ls.length ≤ 100) (hl : ∀ l ∈ ls, l.length ≤ 1000) : Gives Try.prog 63 [gens 0 ls] (fun n => strs n ls.flatten) := by
  refine pure_intro (ow := fun _ => false) Try.func63 Try.ntmps63 rfl (by kernel_rfl) (by simp) rfl (by decide) fun G hG hOw hNm hB => ?_; simp only [go_sem, hG, hOw, reduceIte, Nat.reduceLeDiff, Nat.le_refl, Nat.reduceEqDiff, Nat.reduceAdd, Nat.reduceLT, reduceCtorEq, Int.toNat_natCast]
  refine semC_cut (fun _ : Unit => St.of [(0, gens 0 ls), (3, i64 ls.flatten.length)] []) (fun _ => True) ?_ ?_
  · refine semC_loop (fun k : Nat => St.of [(0, gens 0 ls), (3, i64 (ls.take k).flatten.length), (9, gens 0 ls), (10, i64 ls.length), (11, i64 k)] []) (fun k => k ≤ ls.length) (fun k => ls.length - k) 0 (by simp) (ent_of0 (by (simp only [go_sem, reduceIte, Nat.reduceLeDiff, Nat.le_refl, Nat.reduceEqDiff, Nat.reduceAdd, Nat.reduceLT, reduceCtorEq, Int.toNat_natCast]) <;> simp) hNm) ?_
    intro k hk
    refine vc_sound _ _ _ ?_; simp only [go_sem, hG, hOw, reduceIte, Nat.reduceLeDiff, Nat.le_refl, Nat.reduceEqDiff, Nat.reduceAdd, Nat.reduceLT, reduceCtorEq, Int.toNat_natCast]
    have := flat_le ls 1000 hl k hk
    (repeat' (first | (with_reducible refine And.intro ?_ ?_) | (with_reducible intro _) | (with_reducible refine exP ?_ ?_))); all_goals (try omega)
    · have := hl _ (List.getElem_mem (show k < ls.length by omega)); omega
    · rename_i h1 h2
      refine ⟨k + 1, by omega, by omega, ?_⟩
      rw [flat_succ_len ls k (by omega)]
      exact ent_of0 (by (simp only [go_sem, reduceIte, Nat.reduceLeDiff, Nat.le_refl, Nat.reduceEqDiff, Nat.reduceAdd, Nat.reduceLT, reduceCtorEq, Int.toNat_natCast]) <;> simp) hNm
    · rename_i h1
      obtain rfl : k = ls.length := by omega
      rw [List.take_length]
      exact ⟨(), ent_of0 (by (simp only [go_sem, reduceIte, Nat.reduceLeDiff, Nat.le_refl, Nat.reduceEqDiff, Nat.reduceAdd, Nat.reduceLT, reduceCtorEq, Int.toNat_natCast]) <;> simp) hNm⟩
  · rintro ⟨⟩ -
    have hfl := flat_le ls 1000 hl ls.length (Nat.le_refl _)
    rw [List.take_length] at hfl
    simp only [go_sem, hG, hOw, reduceIte, Nat.reduceLeDiff, Nat.le_refl, Nat.reduceEqDiff, Nat.reduceAdd, Nat.reduceLT, reduceCtorEq, Int.toNat_natCast]
    refine call_tri [] [(0, 100)] (Grow_ok ls.flatten.length (by omega) (by omega)) (by (simp only [go_sem, reduceIte, Nat.reduceLeDiff, Nat.le_refl, Nat.reduceEqDiff, Nat.reduceAdd, Nat.reduceLT, reduceCtorEq, Int.toNat_natCast]) <;> simp) (by (simp only [go_sem, entH, entH1, nilArr, obOK, reduceIte, Nat.reduceLeDiff, Nat.le_refl, Nat.reduceEqDiff, Nat.reduceAdd, Nat.reduceLT, reduceCtorEq, Int.toNat_natCast]) <;> simp) (by simp [injR, apart, toR]) (by simp [coverR, usH, toR]) (by simp [uniqP, lkR, toR]) (by simp [chk, hG]) ?_
    simp only [go_sem, hG, hOw, reduceIte, Nat.reduceLeDiff, Nat.le_refl, Nat.reduceEqDiff, Nat.reduceAdd, Nat.reduceLT, reduceCtorEq, Int.toNat_natCast]
    (repeat' (first | (with_reducible refine And.intro ?_ ?_) | (with_reducible intro _) | (with_reducible refine exP ?_ ?_))); all_goals (try omega)
    refine semC_loop (fun k : Nat => St.of [(6, .own 100 0 (ls.take k).flatten.length 1), (25, gens 0 ls), (26, i64 ls.length), (27, i64 k)] [(100, .arr 9 1 ((ls.take k).flatten.map strE))]) (fun k => k ≤ ls.length) (fun k => ls.length - k) 0 (by simp) (ent_of [(100, some 100)] (by (simp only [go_sem, reduceIte, Nat.reduceLeDiff, Nat.le_refl, Nat.reduceEqDiff, Nat.reduceAdd, Nat.reduceLT, reduceCtorEq, Int.toNat_natCast]) <;> simp) (by (simp only [go_sem, entH, entH1, nilArr, obOK, reduceIte, Nat.reduceLeDiff, Nat.le_refl, Nat.reduceEqDiff, Nat.reduceAdd, Nat.reduceLT, reduceCtorEq, Int.toNat_natCast]) <;> simp) (by simp [injR, apart]) (by simp [coverR, usH]) (by simp [hNm, lkR, names])) ?_
    intro k hk
    refine vc_sound _ _ _ ?_; simp only [go_sem, hG, hOw, reduceIte, Nat.reduceLeDiff, Nat.le_refl, Nat.reduceEqDiff, Nat.reduceAdd, Nat.reduceLT, reduceCtorEq, Int.toNat_natCast]
    have := flat_le ls 1000 hl k hk
    (repeat' (first | (with_reducible refine And.intro ?_ ?_) | (with_reducible intro _) | (with_reducible refine exP ?_ ?_))); all_goals (try omega)
    · have := hl _ (List.getElem_mem (show k < ls.length by omega)); omega
    · have := hl _ (List.getElem_mem (show k < ls.length by omega)); omega
    · rename_i h1
      refine ⟨k + 1, by omega, by omega, ?_⟩
      rw [flat_succ_len ls k (by omega), flat_succ ls k (by omega)]
      exact ent_of [(100, some 33)] (by (simp only [go_sem, reduceIte, Nat.reduceLeDiff, Nat.le_refl, Nat.reduceEqDiff, Nat.reduceAdd, Nat.reduceLT, reduceCtorEq, Int.toNat_natCast]) <;> simp) (by (simp only [go_sem, entH, entH1, nilArr, obOK, reduceIte, Nat.reduceLeDiff, Nat.le_refl, Nat.reduceEqDiff, Nat.reduceAdd, Nat.reduceLT, reduceCtorEq, Int.toNat_natCast]) <;> simp) (by simp [injR, apart]) (by simp [coverR, usH]) (by simp [hNm, lkR, names])
    · rename_i h1
      obtain rfl : k = ls.length := by omega
      rw [List.take_length]
      exact .refl _
theorem made_ok (l : List ByteArray) (h : Hk) (hl : l.length ≤ 1000) (hp : h.put.length ≤ 1000) (hb : madeB l h = true) : Gives Try.prog 48 [strs 0 l, .agg (hkE 0 h)] (fun n => strs n (madeL l h)) := by
  refine pure_intro (ow := fun _ => false) Try.func48 Try.ntmps48 rfl (by kernel_rfl) (by simp) rfl (by decide) fun G hG hOw hNm hB => ?_; simp only [go_sem, hG, hOw, reduceIte, Nat.reduceLeDiff, Nat.le_refl, Nat.reduceEqDiff, Nat.reduceAdd, Nat.reduceLT, reduceCtorEq, Int.toNat_natCast]
  refine semC_draw0 mixed (by kernel_rfl) ?_
  simp only [go_sem, hG, hOw, reduceIte, Nat.reduceLeDiff, Nat.le_refl, Nat.reduceEqDiff, Nat.reduceAdd, Nat.reduceLT, reduceCtorEq, Int.toNat_natCast]
  have hb' : (0 ≤ h.lo ∧ h.lo ≤ l.length) ∧ 0 ≤ h.drop ∧ h.drop ≤ l.length - h.lo := by simpa [madeB] using hb
  (repeat' (first | (with_reducible refine And.intro ?_ ?_) | (with_reducible intro _) | (with_reducible refine exP ?_ ?_))); all_goals (try omega)
  refine ⟨_, callGives (Concat_ok [l.take h.lo.toNat, h.put, l.drop (h.lo + h.drop).toNat] (by simp) (by simp; omega)) (by first | exact Subs.refl _ | (repeat' (first | exact Subs.nil | exact Sub.refl _ | exact Sub.lo (Nat.zero_le _) | refine Subs.cons ?_ ?_ | refine Subs.agg ?_ | refine Subs.fp ?_ | refine Subs.tup ?_ | refine Sub.map (Nat.zero_le _) (fun _ => ?_)))) (by first | rfl | simp [allP, all0, pureV, pure0, *]), ?_⟩
  simp only [go_sem, hG, hOw, reduceIte, Nat.reduceLeDiff, Nat.le_refl, Nat.reduceEqDiff, Nat.reduceAdd, Nat.reduceLT, reduceCtorEq, Int.toNat_natCast]
  rw [show madeL l h = [l.take h.lo.toNat, h.put, l.drop (h.lo + h.drop).toNat].flatten by simp [madeL, hb]]
  exact .refl _
theorem hunk1_ok (l : List ByteArray) (n : Nat) (h : n < l.length) : Gives Try.prog 52 [strs 0 l, i64 n] (fun _ => .v (.string l[n])) := by
  refine pure_intro (ow := fun _ => false) Try.func52 Try.ntmps52 rfl (by kernel_rfl) (by simp) rfl (by decide) fun G hG hOw hNm hB => ?_; simp only [go_sem, hG, hOw, reduceIte, Nat.reduceLeDiff, Nat.le_refl, Nat.reduceEqDiff, Nat.reduceAdd, Nat.reduceLT, reduceCtorEq, Int.toNat_natCast]
  (repeat' (first | (with_reducible refine And.intro ?_ ?_) | (with_reducible intro _) | (with_reducible refine exP ?_ ?_))); all_goals (try omega)
theorem hunk2_ok (l : List ByteArray) (n : Nat) (h : n < l.length) : Gives Try.prog 53 [strs 0 l, i64 n] (fun _ => .v (.string (l[l.length - 1 - n]'(by omega)))) := by
  refine pure_intro (ow := fun _ => false) Try.func53 Try.ntmps53 rfl (by kernel_rfl) (by simp) rfl (by decide) fun G hG hOw hNm hB => ?_; simp only [go_sem, hG, hOw, reduceIte, Nat.reduceLeDiff, Nat.le_refl, Nat.reduceEqDiff, Nat.reduceAdd, Nat.reduceLT, reduceCtorEq, Int.toNat_natCast]
  have hl := bd_strs (lo := 0) (l := l) hB (by simp)
  (repeat' (first | (with_reducible refine And.intro ?_ ?_) | (with_reducible intro _) | (with_reducible refine exP ?_ ?_))); all_goals (try omega)
  congr 2; omega
theorem common_ok (k : FuncId) (a b : List ByteArray) (ra rb : List ByteArray) (ha : ra.length = a.length) (hb : rb.length = b.length)
    (hfa : ∀ (n : Nat) (h : n < a.length), Gives Try.prog k [strs 0 a, i64 n] (fun _ => .v (.string (ra[n]'(by omega))))) (hfb : ∀ (n : Nat) (h : n < b.length), Gives Try.prog k [strs 0 b, i64 n] (fun _ => .v (.string (rb[n]'(by omega))))) :
    Gives Try.prog 51 [strs 0 a, strs 0 b, .fn (.func k) []] (fun _ => i64 (cpl ra rb)) := by
  refine pure_intro (ow := fun _ => false) Try.func51 Try.ntmps51 rfl (by kernel_rfl) (by simp) rfl (by decide) fun G hG hOw hNm hB => ?_; simp only [go_sem, hG, hOw, reduceIte, Nat.reduceLeDiff, Nat.le_refl, Nat.reduceEqDiff, Nat.reduceAdd, Nat.reduceLT, reduceCtorEq, Int.toNat_natCast]
  have hla := bd_strs (lo := 0) (l := a) hB (by simp)
  have hlb := bd_strs (lo := 0) (l := b) hB (by simp)
  refine semC_loop (fun n : Nat => St.of [(0, strs 0 a), (1, strs 0 b), (2, .fn (.func k) []), (7, i64 n)] []) (fun n => n ≤ a.length ∧ n ≤ b.length ∧ ra.take n = rb.take n) (fun n => a.length - n) 0 (by simp) (ent_of0 (by (simp only [go_sem, reduceIte, Nat.reduceLeDiff, Nat.le_refl, Nat.reduceEqDiff, Nat.reduceAdd, Nat.reduceLT, reduceCtorEq, Int.toNat_natCast]) <;> simp) hNm) ?_
  rintro n ⟨hna, hnb, hall⟩
  refine vc_sound _ _ _ ?_; simp only [go_sem, hG, hOw, reduceIte, Nat.reduceLeDiff, Nat.le_refl, Nat.reduceEqDiff, Nat.reduceAdd, Nat.reduceLT, reduceCtorEq, Int.toNat_natCast]
  (repeat' (first | (with_reducible refine And.intro ?_ ?_) | (with_reducible intro _) | (with_reducible refine exP ?_ ?_))); all_goals (try omega)
  · rename_i h1
    have h1' : n < a.length ∧ n < b.length := by split at h1 <;> omega
    refine call_pure (hfa n h1'.1) (by first | exact Subs.refl _ | (repeat' (first | exact Subs.nil | exact Sub.refl _ | exact Sub.lo (Nat.zero_le _) | refine Subs.cons ?_ ?_ | refine Subs.agg ?_ | refine Subs.fp ?_ | refine Subs.tup ?_ | refine Sub.map (Nat.zero_le _) (fun _ => ?_)))) (by first | rfl | simp [allP, all0, pureV, pure0, *]) (by simp [chk, hG]) ?_
    simp only [go_sem, hG, hOw, reduceIte, Nat.reduceLeDiff, Nat.le_refl, Nat.reduceEqDiff, Nat.reduceAdd, Nat.reduceLT, reduceCtorEq, Int.toNat_natCast]
    refine call_pure (hfb n h1'.2) (by first | exact Subs.refl _ | (repeat' (first | exact Subs.nil | exact Sub.refl _ | exact Sub.lo (Nat.zero_le _) | refine Subs.cons ?_ ?_ | refine Subs.agg ?_ | refine Subs.fp ?_ | refine Subs.tup ?_ | refine Sub.map (Nat.zero_le _) (fun _ => ?_)))) (by first | rfl | simp [allP, all0, pureV, pure0, *]) (by simp [chk, hG]) ?_
    simp only [go_sem, hG, hOw, reduceIte, Nat.reduceLeDiff, Nat.le_refl, Nat.reduceEqDiff, Nat.reduceAdd, Nat.reduceLT, reduceCtorEq, Int.toNat_natCast]
    (repeat' (first | (with_reducible refine And.intro ?_ ?_) | (with_reducible intro _) | (with_reducible refine exP ?_ ?_))); all_goals (try omega)
    · rename_i h2
      refine ⟨n + 1, ⟨by omega, by omega, ?_⟩, by omega, ent_of0 (by (simp only [go_sem, reduceIte, Nat.reduceLeDiff, Nat.le_refl, Nat.reduceEqDiff, Nat.reduceAdd, Nat.reduceLT, reduceCtorEq, Int.toNat_natCast]) <;> simp) hNm⟩
      rw [List.take_add_one, List.take_add_one, hall, List.getElem?_eq_getElem (by omega), List.getElem?_eq_getElem (by omega), h2]
    · rename_i h2
      rw [cpl_eq ra rb n (by omega) (by omega) hall (fun _ _ => h2)]
  · rename_i h1
    rw [cpl_eq ra rb n (by omega) (by omega) hall (fun h h' => by split at h1 <;> omega)]
theorem hunk_ok (a b : List ByteArray) (hla : a.length ≤ 1000) (hlb : b.length ≤ 1000) : Gives Try.prog 28 [strs 0 a, strs 0 b] (fun n => .agg (hkE n (hunkOf a b))) := by
  refine pure_intro (ow := fun _ => false) Try.func28 Try.ntmps28 rfl (by kernel_rfl) (by simp) rfl (by decide) fun G hG hOw hNm hB => ?_; simp only [go_sem, hG, hOw, reduceIte, Nat.reduceLeDiff, Nat.le_refl, Nat.reduceEqDiff, Nat.reduceAdd, Nat.reduceLT, reduceCtorEq, Int.toNat_natCast]
  refine call_pure (common_ok _ a b a b rfl rfl (fun n h => hunk1_ok a n h) (fun n h => hunk1_ok b n h)) (by first | exact Subs.refl _ | (repeat' (first | exact Subs.nil | exact Sub.refl _ | exact Sub.lo (Nat.zero_le _) | refine Subs.cons ?_ ?_ | refine Subs.agg ?_ | refine Subs.fp ?_ | refine Subs.tup ?_ | refine Sub.map (Nat.zero_le _) (fun _ => ?_)))) (by first | rfl | simp [allP, all0, pureV, pure0, *]) (by simp [chk, hG]) ?_
  simp only [go_sem, hG, hOw, reduceIte, Nat.reduceLeDiff, Nat.le_refl, Nat.reduceEqDiff, Nat.reduceAdd, Nat.reduceLT, reduceCtorEq, Int.toNat_natCast]
  (repeat' (first | (with_reducible refine And.intro ?_ ?_) | (with_reducible intro _) | (with_reducible refine exP ?_ ?_))); all_goals (try omega)
  obtain ⟨hna, hnb⟩ := cpl_le a b
  refine semC_draw0 mixed (by kernel_rfl) ?_
  simp only [go_sem, hG, hOw, reduceIte, Nat.reduceLeDiff, Nat.le_refl, Nat.reduceEqDiff, Nat.reduceAdd, Nat.reduceLT, reduceCtorEq, Int.toNat_natCast]
  (repeat' (first | (with_reducible refine And.intro ?_ ?_) | (with_reducible intro _) | (with_reducible refine exP ?_ ?_))); all_goals (try omega)
  refine call_pure (common_ok _ (a.drop (cpl a b)) (b.drop (cpl a b)) (a.drop (cpl a b)).reverse (b.drop (cpl a b)).reverse (by simp) (by simp)
    (fun n h => by have := hunk2_ok (a.drop (cpl a b)) n h; rw [List.getElem_reverse]; exact this) (fun n h => by have := hunk2_ok (b.drop (cpl a b)) n h; rw [List.getElem_reverse]; exact this)) (by first | exact Subs.refl _ | (repeat' (first | exact Subs.nil | exact Sub.refl _ | exact Sub.lo (Nat.zero_le _) | refine Subs.cons ?_ ?_ | refine Subs.agg ?_ | refine Subs.fp ?_ | refine Subs.tup ?_ | refine Sub.map (Nat.zero_le _) (fun _ => ?_)))) (by first | rfl | simp [allP, all0, pureV, pure0, *]) (by simp [chk, hG]) ?_
  simp only [go_sem, hG, hOw, reduceIte, Nat.reduceLeDiff, Nat.le_refl, Nat.reduceEqDiff, Nat.reduceAdd, Nat.reduceLT, reduceCtorEq, Int.toNat_natCast]
  have he := cpl_le (a.drop (cpl a b)).reverse (b.drop (cpl a b)).reverse
  simp only [List.length_reverse, List.length_drop] at he
  have e2 : ((b.length - cpl a b : Nat) - (cpl (a.drop (cpl a b)).reverse (b.drop (cpl a b)).reverse : Nat) : Int).toNat = b.length - cpl a b - cpl (a.drop (cpl a b)).reverse (b.drop (cpl a b)).reverse := by omega
  simp only [e2]
  (repeat' (first | (with_reducible refine And.intro ?_ ?_) | (with_reducible intro _) | (with_reducible refine exP ?_ ?_))); all_goals (try omega)
  refine call_pure (Clone_ok ((b.drop (cpl a b)).take (b.length - cpl a b - cpl (a.drop (cpl a b)).reverse (b.drop (cpl a b)).reverse)) (by simp; omega)) (by first | exact Subs.refl _ | (repeat' (first | exact Subs.nil | exact Sub.refl _ | exact Sub.lo (Nat.zero_le _) | refine Subs.cons ?_ ?_ | refine Subs.agg ?_ | refine Subs.fp ?_ | refine Subs.tup ?_ | refine Sub.map (Nat.zero_le _) (fun _ => ?_)))) (by first | rfl | simp [allP, all0, pureV, pure0, *]) (by simp [chk, hG]) ?_
  simp only [go_sem, hG, hOw, reduceIte, Nat.reduceLeDiff, Nat.le_refl, Nat.reduceEqDiff, Nat.reduceAdd, Nat.reduceLT, reduceCtorEq, Int.toNat_natCast]
  have e3 : (hunkOf a b).put = (b.drop (cpl a b)).take (b.length - cpl a b - cpl (a.drop (cpl a b)).reverse (b.drop (cpl a b)).reverse) := by
    unfold hunkOf
    simp only [List.drop_take]
    congr 1; omega
  rw [e3, show (hunkOf a b).lo = cpl a b from rfl, show (hunkOf a b).drop = ((a.length - cpl a b : Nat) : Int) - (cpl (a.drop (cpl a b)).reverse (b.drop (cpl a b)).reverse : Nat) by unfold hunkOf; simp only; omega]
  exact .refl _
end Go.Proofs.Ytgienbcekgokiaa
