/- The document's answer: rows that are read. -/
import Derived.Test.YtgienbcekgokiaaF13
namespace Go.Proofs.Ytgienbcekgokiaa
open Go Pm
set_option linter.unusedSimpArgs false
set_option linter.unusedVariables false
set_option maxHeartbeats 4000000
set_option maxRecDepth 100000
/-- the place of the first line's end, or the length -/
def ixL : List UInt8 → Nat
  | [] => 0
  | b :: r => if b = 10 then 0 else ixL r + 1
def nlS (s : ByteArray) (a : Nat) : Nat := a + ixL (s.data.toList.drop a)
theorem ixL_le : ∀ l, ixL l ≤ l.length
  | [] => Nat.le_refl _
  | b :: r => by
    unfold ixL
    have := ixL_le r
    split <;> simp <;> omega
theorem nlS_le {s : ByteArray} {a : Nat} (h : a ≤ s.size) : a ≤ nlS s a ∧ nlS s a ≤ s.size := by
  unfold nlS
  have := ixL_le (s.data.toList.drop a)
  rw [List.length_drop] at this
  have h2 : s.data.toList.length = s.size := by rw [Array.length_toList]; rfl
  omega
theorem drop_cons (s : ByteArray) {a : Nat} (h : a < s.size) : s.data.toList.drop a = s[a] :: s.data.toList.drop (a + 1) := by
  have h2 : s.data.toList.length = s.size := by rw [Array.length_toList]; rfl
  rw [List.drop_eq_getElem_cons (by omega)]
  rfl
theorem nlS_step {s : ByteArray} {a : Nat} (h : a < s.size) (hb : s[a] ≠ 10) : nlS s (a + 1) = nlS s a := by
  unfold nlS
  rw [drop_cons s h]
  simp only [ixL, if_neg hb]
  omega
theorem nlS_at {s : ByteArray} {a : Nat} (h : a < s.size) (hb : s[a] = 10) : nlS s a = a := by
  unfold nlS
  rw [drop_cons s h]
  simp only [ixL, if_pos hb]
  omega
theorem nlS_end {s : ByteArray} {a : Nat} (h : a = s.size) : nlS s a = a := by
  unfold nlS
  have h2 : s.data.toList.length = s.size := by rw [Array.length_toList]; rfl
  rw [List.drop_of_length_le (by omega)]
  rfl
theorem nlS_is {s : ByteArray} : ∀ (n : Nat) {a : Nat}, s.size - a = n → (h : nlS s a < s.size) → s[nlS s a] = 10
  | 0, a, hn, h => by
    have := nlS_le (s := s) (a := a)
    unfold nlS at h
    omega
  | n + 1, a, hn, h => by
    by_cases hb : s[a]'(by omega) = 10
    · have := nlS_at (by omega) hb
      simp only [this]
      exact hb
    · have := nlS_step (s := s) (a := a) (by omega) hb
      have ih := nlS_is (s := s) n (a := a + 1) (by omega) (by omega)
      simp only [this] at ih
      exact ih
/-- that a right row begins here -/
def goodR (s : ByteArray) (a i : Nat) : Bool := decide (nlS s a < s.size ∧ a + 4 ≤ nlS s a) && (rowB (s.extract a (nlS s a - 3)) && decide (lineB (s.extract a (nlS s a - 3)) i = s.extract a (nlS s a + 1)))
def rdAll (s : ByteArray) : Nat → Nat → List ByteArray → List ByteArray × Nat
  | 0, a, out => (out, a)
  | n + 1, a, out => if goodR s a out.length = true then rdAll s n (nlS s a + 1) (out ++ [s.extract a (nlS s a - 3)]) else (out, a)
theorem rdAll_zero (s : ByteArray) (a : Nat) (out : List ByteArray) : rdAll s 0 a out = (out, a) := rfl
theorem rdAll_bad {s : ByteArray} {n a : Nat} {out : List ByteArray} (h : goodR s a out.length = false) : rdAll s n a out = (out, a) := by
  cases n with
  | zero => rfl
  | succ n => simp [rdAll, h]
theorem rdAll_good {s : ByteArray} {n a : Nat} {out : List ByteArray} (h : goodR s a out.length = true) : rdAll s (n + 1) a out = rdAll s n (nlS s a + 1) (out ++ [s.extract a (nlS s a - 3)]) := by
  simp [rdAll, h]
def rdL (s : ByteArray) : List ByteArray := if s.size ≤ 30000 then (rdAll s 200 0 []).1 else []
def rdN (s : ByteArray) : Int := if s.size ≤ 30000 then ((rdAll s 200 0 []).2 : Nat) else 0
def rdE (s : ByteArray) : Int := if s.size ≤ 30000 then 0 else 9
theorem ext_size (s : ByteArray) {a b : Nat} (h : b ≤ s.size) : (s.extract a b).size = b - a := by
  rw [ByteArray.size_extract]; omega
theorem rows_one (r : ByteArray) : rowsB [r] = rowB r := by simp [rowsB]
theorem RRead_ok (s : ByteArray) : Gives Try.prog 22 [.v (.string s)] (fun n => .tup [strs n (rdL s), i64 (rdN s), i64 (rdE s)]) := by
  refine pure_intro (ow := fun _ => false) Try.func22 Try.ntmps22 rfl (by kernel_rfl) (by simp) rfl (by decide) fun G hG hOw hNm hB => ?_; simp only [go_sem, hG, hOw, reduceIte, Nat.reduceLeDiff, Nat.le_refl, Nat.reduceEqDiff, Nat.reduceAdd, Nat.reduceLT, reduceCtorEq, Int.toNat_natCast]
  (repeat' (first | (with_reducible refine And.intro ?_ ?_) | (with_reducible intro _) | (with_reducible refine exP ?_ ?_))); all_goals (try omega)
  · rename_i h
    have : ¬ s.size ≤ 30000 := by omega
    simp only [rdL, rdN, rdE, this, if_false]
    exact Subs.tup (.cons (.nil _ _) (.cons (.refl _) (.cons (.refl _) .nil)))
  · rename_i h
    have hsz : s.size ≤ 30000 := by omega
    simp only [rdL, rdN, rdE, hsz, if_true]
    obtain ⟨R, hR⟩ : ∃ R, R = rdAll s 200 0 [] := ⟨_, rfl⟩
    rw [← hR]
    refine semC_loop (fun x : List ByteArray × Nat => St.of [(0, .v (.string s)), (5, .own 9 0 x.1.length 1), (6, i64 x.2)] [(9, .arr 9 1 (x.1.map strE))]) (fun x => x.1.length ≤ 200 ∧ x.2 ≤ s.size ∧ rdAll s (200 - x.1.length) x.2 x.1 = R) (fun x => 200 - x.1.length) ([], 0) ⟨by simp, by simp, hR.symm⟩ (ent_of [(9, none)] (by (simp only [go_sem, reduceIte, Nat.reduceLeDiff, Nat.le_refl, Nat.reduceEqDiff, Nat.reduceAdd, Nat.reduceLT, reduceCtorEq, Int.toNat_natCast]) <;> simp) (by (simp only [go_sem, entH, entH1, nilArr, obOK, reduceIte, Nat.reduceLeDiff, Nat.le_refl, Nat.reduceEqDiff, Nat.reduceAdd, Nat.reduceLT, reduceCtorEq, Int.toNat_natCast]) <;> simp) (by simp [injR, apart]) (by simp [coverR, usH]) (by simp [hNm, lkR, names])) ?_
    rintro ⟨out, a⟩ ⟨hl, ha, hr⟩
    dsimp only at hl ha hr ⊢
    have bad : nlS s a = s.size ∨ nlS s a < a + 4 → goodR s a out.length = false := fun h => by
      unfold goodR
      rw [decide_eq_false (by omega), Bool.false_and]
    refine vc_sound _ _ _ ?_; simp only [go_sem, hG, hOw, reduceIte, Nat.reduceLeDiff, Nat.le_refl, Nat.reduceEqDiff, Nat.reduceAdd, Nat.reduceLT, reduceCtorEq, Int.toNat_natCast]
    (repeat' (first | (with_reducible refine And.intro ?_ ?_) | (with_reducible intro _) | (with_reducible refine exP ?_ ?_))); all_goals (try omega)
    · rename_i hlt
      have hlt' : out.length < 200 := by omega
      refine semC_loop (fun e : Nat => St.of [(0, .v (.string s)), (5, .own 9 0 out.length 1), (6, i64 a), (7, i64 e)] [(9, .arr 9 1 (out.map strE))]) (fun e => a ≤ e ∧ e ≤ s.size ∧ nlS s e = nlS s a) (fun e => s.size - e) a ⟨Nat.le_refl _, ha, rfl⟩ (ent_of [(9, some 9)] (by (simp only [go_sem, reduceIte, Nat.reduceLeDiff, Nat.le_refl, Nat.reduceEqDiff, Nat.reduceAdd, Nat.reduceLT, reduceCtorEq, Int.toNat_natCast]) <;> simp) (by (simp only [go_sem, entH, entH1, nilArr, obOK, reduceIte, Nat.reduceLeDiff, Nat.le_refl, Nat.reduceEqDiff, Nat.reduceAdd, Nat.reduceLT, reduceCtorEq, Int.toNat_natCast]) <;> simp) (by simp [injR, apart]) (by simp [coverR, usH]) (by simp [hNm, lkR, names])) ?_
      rintro e ⟨he1, he2, he3⟩
      refine vc_sound _ _ _ ?_; simp only [go_sem, hG, hOw, reduceIte, Nat.reduceLeDiff, Nat.le_refl, Nat.reduceEqDiff, Nat.reduceAdd, Nat.reduceLT, reduceCtorEq, Int.toNat_natCast]
      (repeat' (first | (with_reducible refine And.intro ?_ ?_) | (with_reducible intro _) | (with_reducible refine exP ?_ ?_))); all_goals (try omega)
      · rename_i h1 h2
        refine ⟨e + 1, ⟨by omega, by omega, (nlS_step (by omega) fun hh => h2 ?_).trans he3⟩, by omega, ent_of [(9, some 9)] (by (simp only [go_sem, reduceIte, Nat.reduceLeDiff, Nat.le_refl, Nat.reduceEqDiff, Nat.reduceAdd, Nat.reduceLT, reduceCtorEq, Int.toNat_natCast]) <;> simp) (by (simp only [go_sem, entH, entH1, nilArr, obOK, reduceIte, Nat.reduceLeDiff, Nat.le_refl, Nat.reduceEqDiff, Nat.reduceAdd, Nat.reduceLT, reduceCtorEq, Int.toNat_natCast]) <;> simp) (by simp [injR, apart]) (by simp [coverR, usH]) (by simp [hNm, lkR, names])⟩
        rw [hh]; rfl
      · rename_i h1 h2 h3 h4
        have hn := nlS_at (show e < s.size by omega) (UInt8.toNat_inj.1 (show _ = 10 by omega))
        rw [← hr, rdAll_bad (bad (.inr (by omega)))]
        exact Sub.refl _
      · rename_i h1 h2 h3 h4
        have hn := nlS_at (show e < s.size by omega) (UInt8.toNat_inj.1 (show _ = 10 by omega))
        have hna : nlS s a = e := by omega
        obtain ⟨r, hrd⟩ : ∃ r, r = s.extract a (e - 3) := ⟨_, rfl⟩
        have hrs : r.size = e - 3 - a := by rw [hrd, ext_size _ (by omega)]
        have hg : goodR s a out.length = (rowB r && decide (lineB r out.length = s.extract a (e + 1))) := by
          simp only [goodR, hna, ← hrd]
          rw [decide_eq_true (by omega), Bool.true_and]
        have x1 : ((e : Int) - 3).toNat = e - 3 := by omega
        have x2 : ((e : Int) + 1).toNat = e + 1 := by omega
        refine semC_draw0 mixed (by kernel_rfl) ?_
        simp (config := { maxSteps := 2000000 }) only [go_sem, hG, hOw, x1, x2, ← hrd, reduceIte, Nat.reduceLeDiff, Nat.le_refl, Nat.reduceEqDiff, Nat.reduceAdd, Nat.reduceLT, reduceCtorEq, Int.toNat_natCast]
        refine ⟨_, callGives (Rows_ok [r]) (by first | exact Subs.refl _ | (repeat' (first | exact Subs.nil | exact Sub.refl _ | exact Sub.lo (Nat.zero_le _) | refine Subs.cons ?_ ?_ | refine Subs.agg ?_ | refine Subs.fp ?_ | refine Subs.tup ?_ | refine Sub.map (Nat.zero_le _) (fun _ => ?_)))) (by first | rfl | simp [allP, all0, pureV, pure0, *]), ?_⟩
        rw [rows_one]
        simp (config := { maxSteps := 2000000 }) only [go_sem, hG, hOw, x1, x2, ← hrd, reduceIte, Nat.reduceLeDiff, Nat.le_refl, Nat.reduceEqDiff, Nat.reduceAdd, Nat.reduceLT, reduceCtorEq, Int.toNat_natCast]
        (repeat' (first | (with_reducible refine And.intro ?_ ?_) | (with_reducible intro _) | (with_reducible refine exP ?_ ?_))); all_goals (try omega)
        · rename_i g1
          refine ⟨_, callGives (RLine_ok r (by omega) out.length (by omega)) (by first | exact Subs.refl _ | (repeat' (first | exact Subs.nil | exact Sub.refl _ | exact Sub.lo (Nat.zero_le _) | refine Subs.cons ?_ ?_ | refine Subs.agg ?_ | refine Subs.fp ?_ | refine Subs.tup ?_ | refine Sub.map (Nat.zero_le _) (fun _ => ?_)))) (by first | rfl | simp [allP, all0, pureV, pure0, *]), ?_⟩
          simp (config := { maxSteps := 2000000 }) only [go_sem, hG, hOw, x1, x2, ← hrd, reduceIte, Nat.reduceLeDiff, Nat.le_refl, Nat.reduceEqDiff, Nat.reduceAdd, Nat.reduceLT, reduceCtorEq, Int.toNat_natCast]
          refine ⟨by omega, by omega, fun q => ?_, fun q => ⟨by omega, by omega, (out ++ [r], e + 1), ⟨by simp; omega, by dsimp only; omega, ?_⟩, by simp; omega, ?_⟩⟩
          · rw [← hr, rdAll_bad (by rw [hg, g1, decide_eq_false q]; rfl)]
            exact Sub.refl _
          · dsimp only
            rw [List.length_append, List.length_singleton]
            rw [show 200 - out.length = (200 - (out.length + 1)) + 1 by omega, rdAll_good (by rw [hg, g1, decide_eq_true q]; rfl), hna, ← hrd] at hr
            exact hr
          · dsimp only
            rw [List.map_append, List.length_append, List.length_singleton, Int.natCast_add, Int.natCast_one]
            exact ent_of [(9, some 66)] (by (simp only [go_sem, reduceIte, Nat.reduceLeDiff, Nat.le_refl, Nat.reduceEqDiff, Nat.reduceAdd, Nat.reduceLT, reduceCtorEq, Int.toNat_natCast]) <;> simp) (by (simp only [go_sem, entH, entH1, nilArr, obOK, reduceIte, Nat.reduceLeDiff, Nat.le_refl, Nat.reduceEqDiff, Nat.reduceAdd, Nat.reduceLT, reduceCtorEq, Int.toNat_natCast]) <;> simp) (by simp [injR, apart]) (by simp [coverR, usH]) (by simp [hNm, lkR, names])
        · rename_i g1
          rw [← hr, rdAll_bad (by rw [hg]; simp [g1])]
          exact Sub.refl _
      · rename_i h1 h2
        have hn := nlS_end (show e = s.size by omega)
        rw [← hr, rdAll_bad (bad (.inl (by omega)))]
        exact Sub.refl _
    · rename_i hge
      have e : 200 - out.length = 0 := by omega
      rw [e, rdAll_zero] at hr
      subst hr
      exact Sub.refl _
end Go.Proofs.Ytgienbcekgokiaa
