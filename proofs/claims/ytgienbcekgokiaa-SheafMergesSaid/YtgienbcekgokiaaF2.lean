/- The document's answers: shelves. -/
import Derived.Test.YtgienbcekgokiaaF1
namespace Go.Proofs.Ytgienbcekgokiaa
open Go Pm
set_option linter.unusedSimpArgs false
set_option linter.unusedVariables false
set_option maxHeartbeats 1000000
theorem GreatShelf_ok (s : Sh) : Gives Try.prog 6 [shE 0 s] (fun _ => bl (greatShelf s)) := by
  refine pure_intro (ow := fun _ => false) Try.func6 Try.ntmps6 rfl (by kernel_rfl) (by simp) rfl (by decide) fun G hG hOw hNm hB => ?_
  simp only [go_sem, hG, hOw, reduceIte, Nat.reduceLeDiff, Nat.le_refl, Nat.reduceEqDiff, Nat.reduceAdd, Nat.reduceLT, reduceCtorEq, Int.toNat_natCast]
  obtain ⟨hl1, hl2, hl3⟩ := bd_sh (n := 0) (s := s) hB (by simp)
  refine call_pure (GreatRows_ok _) (by first | exact Subs.refl _ | (repeat' (first | exact Subs.nil | exact Sub.refl _ | exact Sub.lo (Nat.zero_le _) | refine Subs.cons ?_ ?_ | refine Subs.agg ?_ | refine Subs.tup ?_ | refine Sub.map (Nat.zero_le _) (fun _ => ?_)))) (by first | rfl | simp [allP, all0, pureV, pure0, *]) (by simp [chk, hG]) ?_
  simp only [go_sem, hG, hOw, reduceIte, Nat.reduceLeDiff, Nat.le_refl, Nat.reduceEqDiff, Nat.reduceAdd, Nat.reduceLT, reduceCtorEq, Int.toNat_natCast]
  refine ⟨fun h1 => ?_, fun h1 => ?_⟩
  · refine ⟨fun h2 => by unfold greatShelf; rw [decide_eq_true h2]; simp, fun h2 => ?_⟩
    refine semC_loop (fun k : Nat => St.of [(1, .ptr 1 0), (3, i64 k)] [(1, .box [strs 0 s.first, hks 0 s.chg])]) (fun k => k ≤ s.chg.length ∧ (s.chg.take k).all (fun c => !greatRows c.put) = true) (fun k => s.chg.length - k) 0 (by simp) (ent_of [(1, some 1)] (by (simp only [go_sem, reduceIte, Nat.reduceLeDiff, Nat.le_refl, Nat.reduceEqDiff, Nat.reduceAdd, Nat.reduceLT, reduceCtorEq, Int.toNat_natCast]) <;> simp) (by (simp only [go_sem, entH, entH1, nilArr, obOK, reduceIte, Nat.reduceLeDiff, Nat.le_refl, Nat.reduceEqDiff, Nat.reduceAdd, Nat.reduceLT, reduceCtorEq, Int.toNat_natCast]) <;> simp) (by simp [injR, apart]) (by simp [coverR, usH]) (by simp [hNm, lkR, names])) ?_
    rintro k ⟨hk, hall⟩
    refine vc_sound _ _ _ ?_; simp only [go_sem, hG, hOw, reduceIte, Nat.reduceLeDiff, Nat.le_refl, Nat.reduceEqDiff, Nat.reduceAdd, Nat.reduceLT, reduceCtorEq, Int.toNat_natCast]
    refine ⟨fun hlt => ⟨(by first | omega | (simp; omega)), call_pure (GreatRows_ok _) (by first | exact Subs.refl _ | (repeat' (first | exact Subs.nil | exact Sub.refl _ | exact Sub.lo (Nat.zero_le _) | refine Subs.cons ?_ ?_ | refine Subs.agg ?_ | refine Subs.tup ?_ | refine Sub.map (Nat.zero_le _) (fun _ => ?_)))) (by first | rfl | simp [allP, all0, pureV, pure0, *]) (by simp [chk, hG]) ?_⟩, fun hge => ?_⟩
    · have hkl : k < s.chg.length := by omega
      simp only [go_sem, hG, hOw, reduceIte, Nat.reduceLeDiff, Nat.le_refl, Nat.reduceEqDiff, Nat.reduceAdd, Nat.reduceLT, reduceCtorEq, Int.toNat_natCast]
      refine ⟨fun h3 => ?_, fun h3 => ?_⟩
      · unfold greatShelf
        rw [show (s.chg.any fun c => greatRows c.put) = true from List.any_eq_true.2 ⟨_, List.getElem_mem hkl, h3⟩]; simp
      · exact ⟨(by first | omega | (simp; omega)), k + 1, ⟨by omega, all_take_succ (by omega) hall (by rw [h3]; rfl)⟩, by omega, ent_of [(1, some 1)] (by (simp only [go_sem, reduceIte, Nat.reduceLeDiff, Nat.le_refl, Nat.reduceEqDiff, Nat.reduceAdd, Nat.reduceLT, reduceCtorEq, Int.toNat_natCast]) <;> simp) (by (simp only [go_sem, entH, entH1, nilArr, obOK, reduceIte, Nat.reduceLeDiff, Nat.le_refl, Nat.reduceEqDiff, Nat.reduceAdd, Nat.reduceLT, reduceCtorEq, Int.toNat_natCast]) <;> simp) (by simp [injR, apart]) (by simp [coverR, usH]) (by simp [hNm, lkR, names])⟩
    · rw [take_full hk hge] at hall
      unfold greatShelf
      rw [show (s.chg.any fun c => greatRows c.put) = false from List.any_eq_false.2 (fun x hx => by simpa using List.all_eq_true.1 hall x hx), decide_eq_false h2, h1]; rfl
  · unfold greatShelf; rw [h1]; simp
theorem SameShelf_ok (s t : Sh) : Gives Try.prog 17 [shE 0 s, shE 0 t] (fun _ => bl (decide (s = t))) := by
  refine pure_intro (ow := fun _ => false) Try.func17 Try.ntmps17 rfl (by kernel_rfl) (by simp) rfl (by decide) fun G hG hOw hNm hB => ?_
  simp only [go_sem, hG, hOw, reduceIte, Nat.reduceLeDiff, Nat.le_refl, Nat.reduceEqDiff, Nat.reduceAdd, Nat.reduceLT, reduceCtorEq, Int.toNat_natCast]
  obtain ⟨hl1, hl2, hl3⟩ := bd_sh (n := 0) (s := s) hB (by simp)
  refine call_pure (SameWords_ok _ _) (by first | exact Subs.refl _ | (repeat' (first | exact Subs.nil | exact Sub.refl _ | exact Sub.lo (Nat.zero_le _) | refine Subs.cons ?_ ?_ | refine Subs.agg ?_ | refine Subs.tup ?_ | refine Sub.map (Nat.zero_le _) (fun _ => ?_)))) (by first | rfl | simp [allP, all0, pureV, pure0, *]) (by simp [chk, hG]) ?_
  simp only [go_sem, hG, hOw, reduceIte, Nat.reduceLeDiff, Nat.le_refl, Nat.reduceEqDiff, Nat.reduceAdd, Nat.reduceLT, reduceCtorEq, Int.toNat_natCast]
  have ne : s ≠ t → false = decide (s = t) := fun h => by rw [decide_eq_false h]
  refine ⟨fun h1 => ⟨fun h2 => ne ?_, fun h2 => ?_⟩, fun h1 => ne ?_⟩
  · rintro rfl; simp at h2
  · have hlen : s.chg.length = t.chg.length := by omega
    have hf : s.first = t.first := by simpa using h1
    refine semC_loop (fun k : Nat => St.of [(2, .ptr 2 0), (3, .ptr 3 0), (5, i64 k)] [(2, .box [strs 0 s.first, hks 0 s.chg]), (3, .box [strs 0 t.first, hks 0 t.chg])]) (fun k => k ≤ s.chg.length ∧ s.chg.take k = t.chg.take k) (fun k => s.chg.length - k) 0 (by simp) (ent_of [(2, some 2), (3, some 3)] (by (simp only [go_sem, reduceIte, Nat.reduceLeDiff, Nat.le_refl, Nat.reduceEqDiff, Nat.reduceAdd, Nat.reduceLT, reduceCtorEq, Int.toNat_natCast]) <;> simp) (by (simp only [go_sem, entH, entH1, nilArr, obOK, reduceIte, Nat.reduceLeDiff, Nat.le_refl, Nat.reduceEqDiff, Nat.reduceAdd, Nat.reduceLT, reduceCtorEq, Int.toNat_natCast]) <;> simp) (by simp [injR, apart]) (by simp [coverR, usH]) (by simp [hNm, lkR, names])) ?_
    rintro k ⟨hk, hall⟩
    refine vc_sound _ _ _ ?_; simp only [go_sem, hG, hOw, reduceIte, Nat.reduceLeDiff, Nat.le_refl, Nat.reduceEqDiff, Nat.reduceAdd, Nat.reduceLT, reduceCtorEq, Int.toNat_natCast]
    refine ⟨fun hlt => ?_, fun hge => ?_⟩
    · refine semC_draw0 mixed (by kernel_rfl) ?_
      simp only [go_sem, hG, hOw, reduceIte, Nat.reduceLeDiff, Nat.le_refl, Nat.reduceEqDiff, Nat.reduceAdd, Nat.reduceLT, reduceCtorEq, Int.toNat_natCast]
      have hkl : k < s.chg.length := by omega
      have nek : s.chg[k] ≠ t.chg[k] → s ≠ t := fun h e => h (by subst e; rfl)
      refine ⟨(by first | omega | (simp; omega)), (by first | omega | (simp; omega)), fun h3 => ⟨fun h4 => call_pure (SameWords_ok _ _) (by first | exact Subs.refl _ | (repeat' (first | exact Subs.nil | exact Sub.refl _ | exact Sub.lo (Nat.zero_le _) | refine Subs.cons ?_ ?_ | refine Subs.agg ?_ | refine Subs.tup ?_ | refine Sub.map (Nat.zero_le _) (fun _ => ?_)))) (by first | rfl | simp [allP, all0, pureV, pure0, *]) (by simp [chk, hG]) ?_, fun h4 => ne (nek ?_)⟩, fun h3 => ne (nek ?_)⟩
      · simp only [go_sem, hG, hOw, reduceIte, Nat.reduceLeDiff, Nat.le_refl, Nat.reduceEqDiff, Nat.reduceAdd, Nat.reduceLT, reduceCtorEq, Int.toNat_natCast]
        refine ⟨fun h5 => ne (nek ?_), fun h5 => ⟨(by first | omega | (simp; omega)), k + 1, ⟨by omega, ?_⟩, by omega, ent_of [(2, some 2), (3, some 3)] (by (simp only [go_sem, reduceIte, Nat.reduceLeDiff, Nat.le_refl, Nat.reduceEqDiff, Nat.reduceAdd, Nat.reduceLT, reduceCtorEq, Int.toNat_natCast]) <;> simp) (by (simp only [go_sem, entH, entH1, nilArr, obOK, reduceIte, Nat.reduceLeDiff, Nat.le_refl, Nat.reduceEqDiff, Nat.reduceAdd, Nat.reduceLT, reduceCtorEq, Int.toNat_natCast]) <;> simp) (by simp [injR, apart]) (by simp [coverR, usH]) (by simp [hNm, lkR, names])⟩⟩
        · intro e; simp [e] at h5
        · have e : s.chg[k] = t.chg[k] := by
            have h3' : s.chg[k].lo = t.chg[k].lo := by simpa using h3
            have h4' : s.chg[k].drop = t.chg[k].drop := by simpa using h4
            have h5' : s.chg[k].put = t.chg[k].put := by simpa using h5
            revert h3' h4' h5'
            cases s.chg[k]; cases t.chg[k]
            rintro rfl rfl rfl; rfl
          rw [List.take_add_one, List.take_add_one, hall, List.getElem?_eq_getElem hkl, List.getElem?_eq_getElem (by omega), e]
      · intro e; simp [e] at h4
      · intro e; simp [e] at h3
    · rw [take_full hk hge, take_full (by omega) (by omega)] at hall
      cases s; cases t
      simp only at hf hall
      subst hf; subst hall
      simp
  · rintro rfl; simp at h1
end Go.Proofs.Ytgienbcekgokiaa
