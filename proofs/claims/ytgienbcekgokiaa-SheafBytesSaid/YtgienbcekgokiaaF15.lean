/- The program: the check of a row; where a text is cut. -/
import Derived.Test.YtgienbcekgokiaaF14
import Derived.Test.YtgienbcekgokiaaF7
import Derived.Test.YtgienbcekgokiaaPmI
namespace Go.Proofs.Ytgienbcekgokiaa
open Go Pm
set_option linter.unusedSimpArgs false
set_option linter.unusedVariables false
set_option maxHeartbeats 4000000
set_option maxRecDepth 100000
theorem check_ok (s : ByteArray) (hs : s.size ≤ 100000) (i : Int) (hi : 0 ≤ i ∧ i ≤ 1000) : Gives Try.prog 36 [.v (.string s), i64 i] (fun _ => .v (.string (chkB s i))) := by
  refine pure_intro (ow := fun _ => false) Try.func36 Try.ntmps36 rfl (by kernel_rfl) (by simp) rfl (by decide) fun G hG hOw hNm hB => ?_; simp only [go_sem, hG, hOw, reduceIte, Nat.reduceLeDiff, Nat.le_refl, Nat.reduceEqDiff, Nat.reduceAdd, Nat.reduceLT, reduceCtorEq, Int.toNat_natCast]
  (repeat' (first | (with_reducible refine And.intro ?_ ?_) | (with_reducible intro _) | (with_reducible refine exP ?_ ?_))); all_goals (try omega)
  refine semC_loop (fun k : Nat => St.of [(0, .v (.string s)), (5, i64 (sumI s i k)), (12, i64 s.size), (13, i64 k)] []) (fun k => k ≤ s.size) (fun k => s.size - k) 0 (by simp) (ent_of0 (by (simp only [go_sem, reduceIte, Nat.reduceLeDiff, Nat.le_refl, Nat.reduceEqDiff, Nat.reduceAdd, Nat.reduceLT, reduceCtorEq, Int.toNat_natCast]) <;> simp) hNm) ?_
  rintro k hk
  have h1 := sumI_le s i k
  have h3 := byI_le s k
  by_cases hlt : k < s.size
  · have h2 := byI_at hlt
    have e1 : sumI s i (k + 1) = (31 * sumI s i k + byI s k) % 676 := rfl
    refine vc_sound _ _ _ ?_
    simp (config := { maxSteps := 2000000 }) only [go_sem, hG, hOw, ← h2, reduceIte, Nat.reduceLeDiff, Nat.le_refl, Nat.reduceEqDiff, Nat.reduceAdd, Nat.reduceLT, reduceCtorEq, Int.toNat_natCast]
    (repeat' (first | (with_reducible refine And.intro ?_ ?_) | (with_reducible intro _) | (with_reducible refine exP ?_ ?_))); all_goals (try omega)
    refine ⟨k + 1, by omega, by omega, ?_⟩
    rw [e1]
    exact ent_of0 (by (simp only [go_sem, reduceIte, Nat.reduceLeDiff, Nat.le_refl, Nat.reduceEqDiff, Nat.reduceAdd, Nat.reduceLT, reduceCtorEq, Int.toNat_natCast]) <;> simp) hNm
  · obtain rfl : k = s.size := by omega
    have hf : fitsK .i64 (sumI s i s.size / 26) := fitsK_i64 _ ▸ (by omega)
    refine vc_sound _ _ _ ?_
    simp only [go_sem, hG, hOw, reduceIte, Nat.reduceLeDiff, Nat.le_refl, Nat.reduceEqDiff, Nat.reduceAdd, Nat.reduceLT, reduceCtorEq, Int.toNat_natCast]
    (repeat' (first | (with_reducible refine And.intro ?_ ?_) | (with_reducible intro _) | (with_reducible refine exP ?_ ?_))); all_goals (try omega)
    all_goals first | exact hf | skip
    have hw : ∀ x : Int, 0 ≤ x ∧ x < 26 → (IntKind.u8.wrap (97 + x)).toNat = 97 + x.toNat := fun x hx => by
      have : IntKind.u8.wrap (97 + x) = (97 + x) % 256 := rfl
      rw [this]; omega
    rw [hw _ (by omega), hw _ (by omega)]
    rfl
theorem idx_ixL : ∀ l : List UInt8, Lib.indexByte l 10 = if ixL l < l.length then (ixL l : Int) else -1
  | [] => rfl
  | b :: r => by
    have ih := idx_ixL r
    have hle := ixL_le r
    simp only [Lib.indexByte, ixL, ih, List.length_cons]
    by_cases hb : b = 10
    · subst hb; simp
    · by_cases h : ixL r < r.length
      · have : ¬ (ixL r : Int) = -1 := by omega
        simp [hb, h, this]
      · simp [hb, h]
def cutI (s : ByteArray) : Bool := decide (ixL s.data.toList < s.data.toList.length)
def cutA (s : ByteArray) : ByteArray := if ixL s.data.toList < s.data.toList.length then s.extract 0 (ixL s.data.toList) else s
def cutB (s : ByteArray) : ByteArray := if ixL s.data.toList < s.data.toList.length then s.extract (ixL s.data.toList + 1) s.size else ⟨#[]⟩
theorem IndexByte_ok (s : ByteArray) : Gives Try.prog 87 [.v (.string s), .v (.int .u8 10)] (fun _ => i64 (Lib.indexByte s.data.toList 10)) := by
  refine pure_intro (ow := fun _ => false) Try.func87 Try.ntmps87 rfl (by kernel_rfl) (by simp) rfl (by decide) fun G hG hOw hNm hB => ?_; simp only [go_sem, hG, hOw, reduceIte, Nat.reduceLeDiff, Nat.le_refl, Nat.reduceEqDiff, Nat.reduceAdd, Nat.reduceLT, reduceCtorEq, Int.toNat_natCast]
  refine call_idx Try.func92 (by kernel_rfl) (by kernel_rfl) (by kernel_rfl) (by kernel_rfl) rfl (by rw [hG]; decide) s 10 ?_
  simp only [go_sem, hG, hOw, reduceIte, Nat.reduceLeDiff, Nat.le_refl, Nat.reduceEqDiff, Nat.reduceAdd, Nat.reduceLT, reduceCtorEq, Int.toNat_natCast]
  rfl
theorem Index_ok (s : ByteArray) : Gives Try.prog 81 [.v (.string s), .v (.string ⟨#[10]⟩)] (fun _ => i64 (Lib.indexByte s.data.toList 10)) := by
  refine pure_intro (ow := fun _ => false) Try.func81 Try.ntmps81 rfl (by kernel_rfl) (by simp) rfl (by decide) fun G hG hOw hNm hB => ?_; simp only [go_sem, hG, hOw, reduceIte, Nat.reduceLeDiff, Nat.le_refl, Nat.reduceEqDiff, Nat.reduceAdd, Nat.reduceLT, reduceCtorEq, Int.toNat_natCast]
  (repeat' (first | (with_reducible refine And.intro ?_ ?_) | (with_reducible intro _) | (with_reducible refine exP ?_ ?_))); all_goals (try omega)
  · rename_i h1 h2
    subst h2
    rfl
  · refine call_pure (IndexByte_ok s) (by first | exact Subs.refl _ | (repeat' (first | exact Subs.nil | exact Sub.refl _ | exact Sub.lo (Nat.zero_le _) | refine Subs.cons ?_ ?_ | refine Subs.agg ?_ | refine Subs.fp ?_ | refine Subs.tup ?_ | refine Sub.map (Nat.zero_le _) (fun _ => ?_)))) (by first | rfl | simp [allP, all0, pureV, pure0, *]) (by simp [chk, hG]) ?_
    simp only [go_sem, hG, hOw, reduceIte, Nat.reduceLeDiff, Nat.le_refl, Nat.reduceEqDiff, Nat.reduceAdd, Nat.reduceLT, reduceCtorEq, Int.toNat_natCast]
  · rename_i h1 h2 h3 h4
    exact absurd rfl h3
  · rename_i h1 h2 h3 h4
    exact absurd rfl h3
  · rename_i h1
    exact absurd h1 (by decide)
theorem SCut_ok (s : ByteArray) (hs : s.size ≤ 100000) : Gives Try.prog 67 [.v (.string s), .v (.string ⟨#[10]⟩)] (fun _ => .tup [.v (.string (cutA s)), .v (.string (cutB s)), bl (cutI s)]) := by
  refine pure_intro (ow := fun _ => false) Try.func67 Try.ntmps67 rfl (by kernel_rfl) (by simp) rfl (by decide) fun G hG hOw hNm hB => ?_; simp only [go_sem, hG, hOw, reduceIte, Nat.reduceLeDiff, Nat.le_refl, Nat.reduceEqDiff, Nat.reduceAdd, Nat.reduceLT, reduceCtorEq, Int.toNat_natCast]
  refine call_pure (Index_ok s) (by first | exact Subs.refl _ | (repeat' (first | exact Subs.nil | exact Sub.refl _ | exact Sub.lo (Nat.zero_le _) | refine Subs.cons ?_ ?_ | refine Subs.agg ?_ | refine Subs.fp ?_ | refine Subs.tup ?_ | refine Sub.map (Nat.zero_le _) (fun _ => ?_)))) (by first | rfl | simp [allP, all0, pureV, pure0, *]) (by simp [chk, hG]) ?_
  rw [idx_ixL]
  by_cases hi : ixL s.data.toList < s.data.toList.length
  · rw [if_pos hi]
    have h1 : (#[10] : Array UInt8).size = 1 := rfl
    have h2 : s.data.toList.length = s.size := by rw [Array.length_toList]; rfl
    obtain ⟨k, hk⟩ : ∃ k, k = ixL s.data.toList := ⟨_, rfl⟩
    simp only [cutA, cutB, cutI, if_pos hi, decide_eq_true hi]
    rw [← hk] at hi ⊢
    simp only [go_sem, hG, hOw, reduceIte, Nat.reduceLeDiff, Nat.le_refl, Nat.reduceEqDiff, Nat.reduceAdd, Nat.reduceLT, reduceCtorEq, Int.toNat_natCast]
    (repeat' (first | (with_reducible refine And.intro ?_ ?_) | (with_reducible intro _) | (with_reducible refine exP ?_ ?_))); all_goals (try omega)
    have x1 : ((k : Int) + 1).toNat = k + 1 := by omega
    refine semC_draw0 mixed (by kernel_rfl) ?_
    simp (config := { maxSteps := 2000000 }) only [go_sem, hG, hOw, h1, x1, Int.natCast_one, reduceIte, Nat.reduceLeDiff, Nat.le_refl, Nat.reduceEqDiff, Nat.reduceAdd, Nat.reduceLT, reduceCtorEq, Int.toNat_natCast]
    (repeat' (first | (with_reducible refine And.intro ?_ ?_) | (with_reducible intro _) | (with_reducible refine exP ?_ ?_))); all_goals (try omega)
  · rw [if_neg hi]
    simp only [go_sem, hG, hOw, reduceIte, Nat.reduceLeDiff, Nat.le_refl, Nat.reduceEqDiff, Nat.reduceAdd, Nat.reduceLT, reduceCtorEq, Int.toNat_natCast]
    (repeat' (first | (with_reducible refine And.intro ?_ ?_) | (with_reducible intro _) | (with_reducible refine exP ?_ ?_))); all_goals (try omega)
    simp only [cutA, cutB, cutI, if_neg hi, decide_eq_false hi]
    exact Sub.refl _
theorem Cut_ok (s : ByteArray) (hs : s.size ≤ 100000) : Gives Try.prog 57 [.v (.string s), .v (.string ⟨#[10]⟩)] (fun _ => .tup [.v (.string (cutA s)), .v (.string (cutB s)), bl (cutI s)]) := by
  refine pure_intro (ow := fun _ => false) Try.func57 Try.ntmps57 rfl (by kernel_rfl) (by simp) rfl (by decide) fun G hG hOw hNm hB => ?_; simp only [go_sem, hG, hOw, reduceIte, Nat.reduceLeDiff, Nat.le_refl, Nat.reduceEqDiff, Nat.reduceAdd, Nat.reduceLT, reduceCtorEq, Int.toNat_natCast]
  refine call_pure (SCut_ok s hs) (by first | exact Subs.refl _ | (repeat' (first | exact Subs.nil | exact Sub.refl _ | exact Sub.lo (Nat.zero_le _) | refine Subs.cons ?_ ?_ | refine Subs.agg ?_ | refine Subs.fp ?_ | refine Subs.tup ?_ | refine Sub.map (Nat.zero_le _) (fun _ => ?_)))) (by first | rfl | simp [allP, all0, pureV, pure0, *]) (by simp [chk, hG]) ?_
  simp only [go_sem, hG, hOw, reduceIte, Nat.reduceLeDiff, Nat.le_refl, Nat.reduceEqDiff, Nat.reduceAdd, Nat.reduceLT, reduceCtorEq, Int.toNat_natCast]
end Go.Proofs.Ytgienbcekgokiaa
