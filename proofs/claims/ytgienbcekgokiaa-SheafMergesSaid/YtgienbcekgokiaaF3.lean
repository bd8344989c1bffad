/- The document's answers: hunks, generations. -/
import Derived.Test.YtgienbcekgokiaaF2
namespace Go.Proofs.Ytgienbcekgokiaa
open Go Pm
set_option linter.unusedSimpArgs false
set_option linter.unusedVariables false
set_option maxHeartbeats 4000000
set_option maxRecDepth 100000
theorem Made_ok (l : List ByteArray) (h : Hk) (hl : l.length ≤ 1000) (hp : h.put.length ≤ 1000) : Gives Try.prog 49 [strs 0 l, .agg (hkE 0 h)] (fun n => .tup [strs n (madeL l h), bl (madeB l h)]) := by
  refine pure_intro (ow := fun _ => false) Try.func49 Try.ntmps49 rfl (by kernel_rfl) (by simp) rfl (by decide) fun G hG hOw hNm hB => ?_
  simp only [go_sem, hG, hOw, reduceIte, Nat.reduceLeDiff, Nat.le_refl, Nat.reduceEqDiff, Nat.reduceAdd, Nat.reduceLT, reduceCtorEq, Int.toNat_natCast]
  refine call_pure (within_ok _ _ _) (by first | exact Subs.refl _ | (repeat' (first | exact Subs.nil | exact Sub.refl _ | exact Sub.lo (Nat.zero_le _) | refine Subs.cons ?_ ?_ | refine Subs.agg ?_ | refine Subs.tup ?_ | refine Sub.map (Nat.zero_le _) (fun _ => ?_)))) (by first | rfl | simp [allP, all0, pureV, pure0, *]) (by simp [chk, hG]) ?_
  simp only [go_sem, hG, hOw, reduceIte, Nat.reduceLeDiff, Nat.le_refl, Nat.reduceEqDiff, Nat.reduceAdd, Nat.reduceLT, reduceCtorEq, Int.toNat_natCast]
  refine ⟨fun h1 => ⟨?_, call_pure (within_ok _ _ _) (by first | exact Subs.refl _ | (repeat' (first | exact Subs.nil | exact Sub.refl _ | exact Sub.lo (Nat.zero_le _) | refine Subs.cons ?_ ?_ | refine Subs.agg ?_ | refine Subs.tup ?_ | refine Sub.map (Nat.zero_le _) (fun _ => ?_)))) (by first | rfl | simp [allP, all0, pureV, pure0, *]) (by simp [chk, hG]) ?_⟩, fun h1 => ?_⟩
  · simp at h1; omega
  · simp only [go_sem, hG, hOw, reduceIte, Nat.reduceLeDiff, Nat.le_refl, Nat.reduceEqDiff, Nat.reduceAdd, Nat.reduceLT, reduceCtorEq, Int.toNat_natCast]
    refine ⟨fun h2 => ?_, fun h2 => ?_⟩
    · have hb : madeB l h = false := by
        unfold madeB; rw [h2]; simp
      rw [show madeL l h = [] by simp [madeL, hb], hb]
      exact Subs.tup (.cons (.nil _ _) (.cons (.refl _) .nil))
    · have hb : madeB l h = true := by
        unfold madeB; rw [h1, h2]; rfl
      simp at h1 h2
      refine ⟨by omega, ⟨by omega, by omega⟩, ⟨by omega, by omega⟩, by omega, by omega, ⟨by omega, by omega⟩, ?_⟩
      rw [show madeL l h = l.take h.lo.toNat ++ h.put ++ l.drop (h.lo + h.drop).toNat by simp [madeL, hb], hb]
      refine Subs.tup (.cons ?_ (.cons (.refl _) .nil))
      rw [List.take_of_length_le (by simp; omega)]
      exact .refl _
  · have hb : madeB l h = false := by
      unfold madeB; rw [h1]; simp
    rw [show madeL l h = [] by simp [madeL, hb], hb]
    exact Subs.tup (.cons (.nil _ _) (.cons (.refl _) .nil))
theorem HunkOf_ok (a b : List ByteArray) (hla : a.length ≤ 1000) (hlb : b.length ≤ 1000) : Gives Try.prog 32 [strs 0 a, strs 0 b] (fun n => .agg (hkE n (hunkOf a b))) := by
  refine pure_intro (ow := fun _ => false) Try.func32 Try.ntmps32 rfl (by kernel_rfl) (by simp) rfl (by decide) fun G hG hOw hNm hB => ?_
  simp only [go_sem, hG, hOw, reduceIte, Nat.reduceLeDiff, Nat.le_refl, Nat.reduceEqDiff, Nat.reduceAdd, Nat.reduceLT, reduceCtorEq, Int.toNat_natCast]
  refine semC_cut (fun _ : Unit => St.of [(0, strs 0 a), (1, strs 0 b), (4, .ptr 4 0), (5, i64 (cpl a b))] [(4, .box [i64 0, i64 0, .v (.slice none 0 0)])]) (fun _ => True) ?_ ?_
  · refine semC_loop (fun k : Nat => St.of [(0, strs 0 a), (1, strs 0 b), (4, .ptr 4 0), (5, i64 k)] [(4, .box [i64 0, i64 0, .v (.slice none 0 0)])]) (fun k => k ≤ a.length ∧ k ≤ b.length ∧ a.take k = b.take k) (fun k => a.length - k) 0 (by simp) (ent_of [(4, some 4)] (by (simp only [go_sem, reduceIte, Nat.reduceLeDiff, Nat.le_refl, Nat.reduceEqDiff, Nat.reduceAdd, Nat.reduceLT, reduceCtorEq, Int.toNat_natCast]) <;> simp) (by (simp only [go_sem, entH, entH1, nilArr, obOK, reduceIte, Nat.reduceLeDiff, Nat.le_refl, Nat.reduceEqDiff, Nat.reduceAdd, Nat.reduceLT, reduceCtorEq, Int.toNat_natCast]) <;> simp) (by simp [injR, apart]) (by simp [coverR, usH]) (by simp [hNm, lkR, names])) ?_
    rintro k ⟨hka, hkb, hall⟩
    refine vc_sound _ _ _ ?_; simp only [go_sem, hG, hOw, reduceIte, Nat.reduceLeDiff, Nat.le_refl, Nat.reduceEqDiff, Nat.reduceAdd, Nat.reduceLT, reduceCtorEq, Int.toNat_natCast]
    refine semC_draw0 mixed (by kernel_rfl) ?_
    simp only [go_sem, hG, hOw, reduceIte, Nat.reduceLeDiff, Nat.le_refl, Nat.reduceEqDiff, Nat.reduceAdd, Nat.reduceLT, reduceCtorEq, Int.toNat_natCast]
    refine ⟨fun h1 => ⟨fun h2 => ⟨(by first | omega | (simp; omega)), (by first | omega | (simp; omega)), fun h3 => ⟨(by first | omega | (simp; omega)), k + 1, ⟨by omega, by omega, ?_⟩, by omega, ent_of [(4, some 4)] (by (simp only [go_sem, reduceIte, Nat.reduceLeDiff, Nat.le_refl, Nat.reduceEqDiff, Nat.reduceAdd, Nat.reduceLT, reduceCtorEq, Int.toNat_natCast]) <;> simp) (by (simp only [go_sem, entH, entH1, nilArr, obOK, reduceIte, Nat.reduceLeDiff, Nat.le_refl, Nat.reduceEqDiff, Nat.reduceAdd, Nat.reduceLT, reduceCtorEq, Int.toNat_natCast]) <;> simp) (by simp [injR, apart]) (by simp [coverR, usH]) (by simp [hNm, lkR, names])⟩, fun h3 => ?_⟩, fun h2 => ?_⟩, fun h1 => ?_⟩
    · rw [List.take_add_one, List.take_add_one, hall, List.getElem?_eq_getElem (by omega), List.getElem?_eq_getElem (by omega), h3]
    · have e : cpl a b = k := cpl_eq a b k hka hkb hall (fun _ _ => h3)
      exact ⟨(), by rw [e]; exact ent_of [(4, some 4)] (by (simp only [go_sem, reduceIte, Nat.reduceLeDiff, Nat.le_refl, Nat.reduceEqDiff, Nat.reduceAdd, Nat.reduceLT, reduceCtorEq, Int.toNat_natCast]) <;> simp) (by (simp only [go_sem, entH, entH1, nilArr, obOK, reduceIte, Nat.reduceLeDiff, Nat.le_refl, Nat.reduceEqDiff, Nat.reduceAdd, Nat.reduceLT, reduceCtorEq, Int.toNat_natCast]) <;> simp) (by simp [injR, apart]) (by simp [coverR, usH]) (by simp [hNm, lkR, names])⟩
    · have e : cpl a b = k := cpl_eq a b k hka hkb hall (fun _ h => by omega)
      exact ⟨(), by rw [e]; exact ent_of [(4, some 4)] (by (simp only [go_sem, reduceIte, Nat.reduceLeDiff, Nat.le_refl, Nat.reduceEqDiff, Nat.reduceAdd, Nat.reduceLT, reduceCtorEq, Int.toNat_natCast]) <;> simp) (by (simp only [go_sem, entH, entH1, nilArr, obOK, reduceIte, Nat.reduceLeDiff, Nat.le_refl, Nat.reduceEqDiff, Nat.reduceAdd, Nat.reduceLT, reduceCtorEq, Int.toNat_natCast]) <;> simp) (by simp [injR, apart]) (by simp [coverR, usH]) (by simp [hNm, lkR, names])⟩
    · have e : cpl a b = k := cpl_eq a b k hka hkb hall (fun h _ => by omega)
      exact ⟨(), by rw [e]; exact ent_of [(4, some 4)] (by (simp only [go_sem, reduceIte, Nat.reduceLeDiff, Nat.le_refl, Nat.reduceEqDiff, Nat.reduceAdd, Nat.reduceLT, reduceCtorEq, Int.toNat_natCast]) <;> simp) (by (simp only [go_sem, entH, entH1, nilArr, obOK, reduceIte, Nat.reduceLeDiff, Nat.le_refl, Nat.reduceEqDiff, Nat.reduceAdd, Nat.reduceLT, reduceCtorEq, Int.toNat_natCast]) <;> simp) (by simp [injR, apart]) (by simp [coverR, usH]) (by simp [hNm, lkR, names])⟩
  rintro ⟨⟩ -
  obtain ⟨hna, hnb⟩ := cpl_le a b
  simp only [go_sem, hG, hOw, reduceIte, Nat.reduceLeDiff, Nat.le_refl, Nat.reduceEqDiff, Nat.reduceAdd, Nat.reduceLT, reduceCtorEq, Int.toNat_natCast]
  have he := cpl_le (a.drop (cpl a b)).reverse (b.drop (cpl a b)).reverse
  simp only [List.length_reverse, List.length_drop] at he
  refine semC_cut (fun _ : Unit => St.of [(0, strs 0 a), (1, strs 0 b), (5, i64 (cpl a b)), (4, .ptr 4 0), (6, i64 (cpl (a.drop (cpl a b)).reverse (b.drop (cpl a b)).reverse))] [(4, .box [i64 0, i64 0, .v (.slice none 0 0)])]) (fun _ => True) ?_ ?_
  · refine semC_loop (fun k : Nat => St.of [(0, strs 0 a), (1, strs 0 b), (5, i64 (cpl a b)), (4, .ptr 4 0), (6, i64 k)] [(4, .box [i64 0, i64 0, .v (.slice none 0 0)])]) (fun k => k ≤ a.length - cpl a b ∧ k ≤ b.length - cpl a b ∧ (a.drop (cpl a b)).reverse.take k = (b.drop (cpl a b)).reverse.take k) (fun k => a.length - k) 0 (by simp) (ent_of [(4, some 4)] (by (simp only [go_sem, reduceIte, Nat.reduceLeDiff, Nat.le_refl, Nat.reduceEqDiff, Nat.reduceAdd, Nat.reduceLT, reduceCtorEq, Int.toNat_natCast]) <;> simp) (by (simp only [go_sem, entH, entH1, nilArr, obOK, reduceIte, Nat.reduceLeDiff, Nat.le_refl, Nat.reduceEqDiff, Nat.reduceAdd, Nat.reduceLT, reduceCtorEq, Int.toNat_natCast]) <;> simp) (by simp [injR, apart]) (by simp [coverR, usH]) (by simp [hNm, lkR, names])) ?_
    rintro k ⟨hka, hkb, hall⟩
    refine vc_sound _ _ _ ?_; simp only [go_sem, hG, hOw, reduceIte, Nat.reduceLeDiff, Nat.le_refl, Nat.reduceEqDiff, Nat.reduceAdd, Nat.reduceLT, reduceCtorEq, Int.toNat_natCast]
    refine semC_draw0 mixed (by kernel_rfl) ?_
    simp only [go_sem, hG, hOw, reduceIte, Nat.reduceLeDiff, Nat.le_refl, Nat.reduceEqDiff, Nat.reduceAdd, Nat.reduceLT, reduceCtorEq, Int.toNat_natCast]
    have qa : (↑a.length - 1 - (k : Int)).toNat = a.length - 1 - k := by omega
    have qb : (↑b.length - 1 - (k : Int)).toNat = b.length - 1 - k := by omega
    have ia : ∀ h : k < a.length - cpl a b, (a.drop (cpl a b)).reverse[k]? = some (a[a.length - 1 - k]'(by omega)) := fun h => by
      rw [List.getElem?_eq_getElem (by simpa using h), rev_get a _ k h]
    have ib : ∀ h : k < b.length - cpl a b, (b.drop (cpl a b)).reverse[k]? = some (b[b.length - 1 - k]'(by omega)) := fun h => by
      rw [List.getElem?_eq_getElem (by simpa using h), rev_get b _ k h]
    simp only [qa, qb]
    have stop := cpl_eq (a.drop (cpl a b)).reverse (b.drop (cpl a b)).reverse k (by simpa using hka) (by simpa using hkb) hall
    (repeat' (first | (with_reducible refine And.intro ?_ ?_) | (with_reducible intro _) | (with_reducible refine exP ?_ ?_))); all_goals (try omega)
    · rename_i h1 h2 h3
      refine ⟨k + 1, ⟨by omega, by omega, ?_⟩, by omega, ent_of [(4, some 4)] (by (simp only [go_sem, reduceIte, Nat.reduceLeDiff, Nat.le_refl, Nat.reduceEqDiff, Nat.reduceAdd, Nat.reduceLT, reduceCtorEq, Int.toNat_natCast]) <;> simp) (by (simp only [go_sem, entH, entH1, nilArr, obOK, reduceIte, Nat.reduceLeDiff, Nat.le_refl, Nat.reduceEqDiff, Nat.reduceAdd, Nat.reduceLT, reduceCtorEq, Int.toNat_natCast]) <;> simp) (by simp [injR, apart]) (by simp [coverR, usH]) (by simp [hNm, lkR, names])⟩
      rw [List.take_add_one, List.take_add_one, hall, ia (by omega), ib (by omega), h3]
    · rename_i h1 h2 h3
      refine ⟨(), ?_⟩
      rw [stop fun h h' e => h3 (by
        rw [rev_get a _ k (by simpa using h), rev_get b _ k (by simpa using h')] at e
        exact e)]
      exact ent_of [(4, some 4)] (by (simp only [go_sem, reduceIte, Nat.reduceLeDiff, Nat.le_refl, Nat.reduceEqDiff, Nat.reduceAdd, Nat.reduceLT, reduceCtorEq, Int.toNat_natCast]) <;> simp) (by (simp only [go_sem, entH, entH1, nilArr, obOK, reduceIte, Nat.reduceLeDiff, Nat.le_refl, Nat.reduceEqDiff, Nat.reduceAdd, Nat.reduceLT, reduceCtorEq, Int.toNat_natCast]) <;> simp) (by simp [injR, apart]) (by simp [coverR, usH]) (by simp [hNm, lkR, names])
    · rename_i h1 h2
      refine ⟨(), ?_⟩
      rw [stop fun h h' => by simp at h h'; omega]
      exact ent_of [(4, some 4)] (by (simp only [go_sem, reduceIte, Nat.reduceLeDiff, Nat.le_refl, Nat.reduceEqDiff, Nat.reduceAdd, Nat.reduceLT, reduceCtorEq, Int.toNat_natCast]) <;> simp) (by (simp only [go_sem, entH, entH1, nilArr, obOK, reduceIte, Nat.reduceLeDiff, Nat.le_refl, Nat.reduceEqDiff, Nat.reduceAdd, Nat.reduceLT, reduceCtorEq, Int.toNat_natCast]) <;> simp) (by simp [injR, apart]) (by simp [coverR, usH]) (by simp [hNm, lkR, names])
    · rename_i h1
      refine ⟨(), ?_⟩
      rw [stop fun h h' => by simp at h h'; omega]
      exact ent_of [(4, some 4)] (by (simp only [go_sem, reduceIte, Nat.reduceLeDiff, Nat.le_refl, Nat.reduceEqDiff, Nat.reduceAdd, Nat.reduceLT, reduceCtorEq, Int.toNat_natCast]) <;> simp) (by (simp only [go_sem, entH, entH1, nilArr, obOK, reduceIte, Nat.reduceLeDiff, Nat.le_refl, Nat.reduceEqDiff, Nat.reduceAdd, Nat.reduceLT, reduceCtorEq, Int.toNat_natCast]) <;> simp) (by simp [injR, apart]) (by simp [coverR, usH]) (by simp [hNm, lkR, names])
  rintro ⟨⟩ -
  simp only [go_sem, hG, hOw, reduceIte, Nat.reduceLeDiff, Nat.le_refl, Nat.reduceEqDiff, Nat.reduceAdd, Nat.reduceLT, reduceCtorEq, Int.toNat_natCast]
  (repeat' (first | (with_reducible refine And.intro ?_ ?_) | (with_reducible intro _) | (with_reducible refine exP ?_ ?_))); all_goals (try omega)
  have hsum : cpl a b ≤ b.length - cpl (a.drop (cpl a b)).reverse (b.drop (cpl a b)).reverse := by omega
  have hb : (b.length : Int) - (cpl (a.drop (cpl a b)).reverse (b.drop (cpl a b)).reverse : Nat) = ((b.length - cpl (a.drop (cpl a b)).reverse (b.drop (cpl a b)).reverse : Nat) : Int) := by omega
  unfold hunkOf
  rw [hb, Int.toNat_natCast, List.take_of_length_le (by simp)]
  exact .refl _
end Go.Proofs.Ytgienbcekgokiaa
