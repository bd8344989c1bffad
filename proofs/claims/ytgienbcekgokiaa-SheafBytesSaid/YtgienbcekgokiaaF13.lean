/- The document's answers: a row's sum, its line, the bytes of rows. -/
import Derived.Test.YtgienbcekgokiaaF1
namespace Go.Proofs.Ytgienbcekgokiaa
open Go Pm
set_option linter.unusedSimpArgs false
set_option linter.unusedVariables false
set_option maxHeartbeats 4000000
set_option maxRecDepth 100000
/-- the byte at a place, or 0 -/
def byI (s : ByteArray) (k : Nat) : Int := if h : k < s.size then (s[k]'h).toNat else 0
theorem byI_at {s : ByteArray} {k : Nat} (h : k < s.size) : byI s k = ((s[k]'h).toNat : Int) := by simp [byI, h]
theorem byI_le (s : ByteArray) (k : Nat) : 0 ≤ byI s k ∧ byI s k ≤ 255 := by
  unfold byI
  split
  · rename_i h
    have := (s[k]'h).toNat_lt
    omega
  · omega
def sumI (s : ByteArray) (i : Int) : Nat → Int
  | 0 => (17 * i + 5) % 676
  | k + 1 => (31 * sumI s i k + byI s k) % 676
theorem sumI_le (s : ByteArray) (i : Int) (k : Nat) : 0 ≤ sumI s i k ∧ sumI s i k < 676 := by
  cases k with
  | zero => simp only [sumI]; omega
  | succ k => simp only [sumI]; omega
theorem sumI_zero (s : ByteArray) (i : Int) : sumI s i 0 = (17 * i + 5) % 676 := rfl
attribute [go_sem] sumI_zero
theorem Sum_ok (s : ByteArray) (hs : s.size ≤ 100000) (i : Int) (hi : 0 ≤ i ∧ i ≤ 1000) : Gives Try.prog 55 [.v (.string s), i64 i] (fun _ => i64 (sumI s i s.size)) := by
  refine pure_intro (ow := fun _ => false) Try.func55 Try.ntmps55 rfl (by kernel_rfl) (by simp) rfl (by decide) fun G hG hOw hNm hB => ?_; simp only [go_sem, hG, hOw, reduceIte, Nat.reduceLeDiff, Nat.le_refl, Nat.reduceEqDiff, Nat.reduceAdd, Nat.reduceLT, reduceCtorEq, Int.toNat_natCast]
  (repeat' (first | (with_reducible refine And.intro ?_ ?_) | (with_reducible intro _) | (with_reducible refine exP ?_ ?_))); all_goals (try omega)
  refine semC_loop (fun k : Nat => St.of [(0, .v (.string s)), (5, i64 (sumI s i k)), (6, i64 k)] []) (fun k => k ≤ s.size) (fun k => s.size - k) 0 (by simp) (ent_of0 (by (simp only [go_sem, reduceIte, Nat.reduceLeDiff, Nat.le_refl, Nat.reduceEqDiff, Nat.reduceAdd, Nat.reduceLT, reduceCtorEq, Int.toNat_natCast]) <;> simp) hNm) ?_
  rintro k hk
  have h1 := sumI_le s i k
  have h3 := byI_le s k
  by_cases hlt : k < s.size
  · have h2 := byI_at hlt
    have e1 : sumI s i (k + 1) = (31 * sumI s i k + byI s k) % 676 := rfl
    refine vc_sound _ _ _ ?_
    simp (config := { maxSteps := 2000000 }) only [go_sem, hG, hOw, ← h2, reduceIte, Nat.reduceLeDiff, Nat.le_refl, Nat.reduceEqDiff, Nat.reduceAdd, Nat.reduceLT, reduceCtorEq, Int.toNat_natCast]
    (repeat' (first | (with_reducible refine And.intro ?_ ?_) | (with_reducible intro _) | (with_reducible refine exP ?_ ?_))); all_goals (try omega)
    refine ⟨k + 1, by omega, by omega, ?_⟩
    rw [e1]
    exact ent_of0 (by (simp only [go_sem, reduceIte, Nat.reduceLeDiff, Nat.le_refl, Nat.reduceEqDiff, Nat.reduceAdd, Nat.reduceLT, reduceCtorEq, Int.toNat_natCast]) <;> simp) hNm
  · refine vc_sound _ _ _ ?_
    simp only [go_sem, hG, hOw, reduceIte, Nat.reduceLeDiff, Nat.le_refl, Nat.reduceEqDiff, Nat.reduceAdd, Nat.reduceLT, reduceCtorEq, Int.toNat_natCast]
    (repeat' (first | (with_reducible refine And.intro ?_ ?_) | (with_reducible intro _) | (with_reducible refine exP ?_ ?_))); all_goals (try omega)
    rw [show k = s.size by omega]
theorem abc_n : ∀ n : Fin 26, (⟨#[97, 98, 99, 100, 101, 102, 103, 104, 105, 106, 107, 108, 109, 110, 111, 112, 113, 114, 115, 116, 117, 118, 119, 120, 121, 122]⟩ : ByteArray).extract n.1 (n.1 + 1) = ⟨#[UInt8.ofNat (97 + n.1)]⟩ := by decide +kernel
theorem abc_ex (k : Int) (h : 0 ≤ k ∧ k < 26) : (⟨#[97, 98, 99, 100, 101, 102, 103, 104, 105, 106, 107, 108, 109, 110, 111, 112, 113, 114, 115, 116, 117, 118, 119, 120, 121, 122]⟩ : ByteArray).extract k.toNat (k + 1).toNat = ⟨#[UInt8.ofNat (97 + k.toNat)]⟩ := by
  obtain ⟨n, rfl⟩ := Int.eq_ofNat_of_zero_le h.1
  have hn : n < 26 := by omega
  rw [show ((n : Int) + 1).toNat = n + 1 by omega, Int.toNat_natCast]
  exact abc_n ⟨n, hn⟩
theorem one_sz (x : UInt8) : (⟨#[x]⟩ : ByteArray).size = 1 := rfl
/-- the two letters of a row with an index -/
def chkB (s : ByteArray) (i : Int) : ByteArray := ⟨#[UInt8.ofNat (97 + (sumI s i s.size / 26).toNat), UInt8.ofNat (97 + (sumI s i s.size % 26).toNat)]⟩
/-- the bytes of a row -/
def lineB (s : ByteArray) (i : Int) : ByteArray := s ++ ⟨#[32]⟩ ++ chkB s i ++ ⟨#[10]⟩
theorem lineB_size (s : ByteArray) (i : Int) : (lineB s i).size = s.size + 4 := by
  unfold lineB chkB
  simp only [ByteArray.size_append]
  rfl
theorem RLine_ok (s : ByteArray) (hs : s.size ≤ 100000) (i : Int) (hi : 0 ≤ i ∧ i ≤ 1000) : Gives Try.prog 39 [.v (.string s), i64 i] (fun _ => .v (.string (lineB s i))) := by
  refine pure_intro (ow := fun _ => false) Try.func39 Try.ntmps39 rfl (by kernel_rfl) (by simp) rfl (by decide) fun G hG hOw hNm hB => ?_; simp only [go_sem, hG, hOw, reduceIte, Nat.reduceLeDiff, Nat.le_refl, Nat.reduceEqDiff, Nat.reduceAdd, Nat.reduceLT, reduceCtorEq, Int.toNat_natCast]
  refine call_pure (Sum_ok s hs i hi) (by first | exact Subs.refl _ | (repeat' (first | exact Subs.nil | exact Sub.refl _ | exact Sub.lo (Nat.zero_le _) | refine Subs.cons ?_ ?_ | refine Subs.agg ?_ | refine Subs.fp ?_ | refine Subs.tup ?_ | refine Sub.map (Nat.zero_le _) (fun _ => ?_)))) (by first | rfl | simp [allP, all0, pureV, pure0, *]) (by simp [chk, hG]) ?_
  simp only [go_sem, hG, hOw, reduceIte, Nat.reduceLeDiff, Nat.le_refl, Nat.reduceEqDiff, Nat.reduceAdd, Nat.reduceLT, reduceCtorEq, Int.toNat_natCast]
  have h1 := sumI_le s i s.size
  have ha := abc_ex (sumI s i s.size / 26) (by omega)
  have hb := abc_ex (sumI s i s.size % 26) (by omega)
  have hf : fitsK .i64 (sumI s i s.size / 26) := fitsK_i64 _ ▸ (by omega)
  refine semC_draw0 mixed (by kernel_rfl) ?_
  simp only [go_sem, hG, hOw, reduceIte, Nat.reduceLeDiff, Nat.le_refl, Nat.reduceEqDiff, Nat.reduceAdd, Nat.reduceLT, reduceCtorEq, Int.toNat_natCast]
  (repeat' (first | (with_reducible refine And.intro ?_ ?_) | (with_reducible intro _) | (with_reducible refine exP ?_ ?_))); all_goals (try omega)
  all_goals first | exact hf | skip
  all_goals (try (simp only [ha, hb]))
  all_goals (try (simp only [one_sz, List.size_toArray, List.length_cons, List.length_nil]; omega))
  rw [ByteArray.append_assoc (a := s ++ (⟨#[32]⟩ : ByteArray))]
  rfl
/-! The bytes of rows. -/
def outB (l : List ByteArray) : Nat → ByteArray
  | 0 => ⟨#[]⟩
  | k + 1 => match l[k]? with
    | some s => outB l k ++ lineB s k
    | none => outB l k
theorem outB_zero (l : List ByteArray) : outB l 0 = ⟨#[]⟩ := rfl
theorem outB_succ (l : List ByteArray) {k : Nat} (h : k < l.length) : outB l (k + 1) = outB l k ++ lineB l[k] k := by
  simp [outB, h]
theorem rowB_size {s : ByteArray} (h : rowB s = true) : s.size ≤ 160 := by
  unfold rowB at h
  simp at h
  omega
theorem outB_size {l : List ByteArray} (h : ∀ s ∈ l, s.size ≤ 160) : ∀ k, k ≤ l.length → (outB l k).size ≤ 164 * k
  | 0, _ => by simp [outB, ByteArray.size]
  | k + 1, hk => by
    rw [outB_succ l (by omega), ByteArray.size_append, lineB_size]
    have := outB_size h k (by omega)
    have := h _ (List.getElem_mem (show k < l.length by omega))
    omega
def wrS (l : List ByteArray) : ByteArray := if rowsB l = true then (if (outB l l.length).size ≤ 30000 then outB l l.length else ⟨#[]⟩) else ⟨#[]⟩
def wrE (l : List ByteArray) : Int := if rowsB l = true then (if (outB l l.length).size ≤ 30000 then 0 else 9) else 110
theorem RWrite_ok (l : List ByteArray) : Gives Try.prog 20 [strs 0 l] (fun _ => .tup [.v (.string (wrS l)), i64 (wrE l)]) := by
  refine pure_intro (ow := fun _ => false) Try.func20 Try.ntmps20 rfl (by kernel_rfl) (by simp) rfl (by decide) fun G hG hOw hNm hB => ?_; simp only [go_sem, hG, hOw, reduceIte, Nat.reduceLeDiff, Nat.le_refl, Nat.reduceEqDiff, Nat.reduceAdd, Nat.reduceLT, reduceCtorEq, Int.toNat_natCast]
  refine call_pure (Rows_ok l) (by first | exact Subs.refl _ | (repeat' (first | exact Subs.nil | exact Sub.refl _ | exact Sub.lo (Nat.zero_le _) | refine Subs.cons ?_ ?_ | refine Subs.agg ?_ | refine Subs.fp ?_ | refine Subs.tup ?_ | refine Sub.map (Nat.zero_le _) (fun _ => ?_)))) (by first | rfl | simp [allP, all0, pureV, pure0, *]) (by simp [chk, hG]) ?_
  simp only [go_sem, hG, hOw, reduceIte, Nat.reduceLeDiff, Nat.le_refl, Nat.reduceEqDiff, Nat.reduceAdd, Nat.reduceLT, reduceCtorEq, Int.toNat_natCast]
  (repeat' (first | (with_reducible refine And.intro ?_ ?_) | (with_reducible intro _) | (with_reducible refine exP ?_ ?_))); all_goals (try omega)
  · rename_i h
    have h' : rowsB l = false := by simpa using h
    simp [wrS, wrE, h']
    exact .refl _
  · rename_i h
    have h' : rowsB l = true := by simpa using h
    have hln : l.length ≤ 200 := by unfold rowsB at h'; simp at h'; omega
    have hsz : ∀ s ∈ l, s.size ≤ 160 := fun s hs => by
      unfold rowsB at h'
      simp only [Bool.and_eq_true, List.all_eq_true] at h'
      exact rowB_size (h'.1 s hs)
    refine semC_loop (fun k : Nat => St.of [(0, strs 0 l), (4, .v (.string (outB l k))), (5, i64 k)] []) (fun k => k ≤ l.length) (fun k => l.length - k) 0 (by simp) (ent_of [] (by (simp only [go_sem, reduceIte, Nat.reduceLeDiff, Nat.le_refl, Nat.reduceEqDiff, Nat.reduceAdd, Nat.reduceLT, reduceCtorEq, Int.toNat_natCast]) <;> simp [outB]) (by (simp only [go_sem, entH, entH1, nilArr, obOK, reduceIte, Nat.reduceLeDiff, Nat.le_refl, Nat.reduceEqDiff, Nat.reduceAdd, Nat.reduceLT, reduceCtorEq, Int.toNat_natCast]) <;> simp [outB]) (by simp [injR, apart]) (by simp [coverR, usH]) (by simp [hNm, lkR, names])) ?_
    rintro k hk
    refine vc_sound _ _ _ ?_; simp only [go_sem, hG, hOw, reduceIte, Nat.reduceLeDiff, Nat.le_refl, Nat.reduceEqDiff, Nat.reduceAdd, Nat.reduceLT, reduceCtorEq, Int.toNat_natCast]
    have ho := outB_size hsz k hk
    (repeat' (first | (with_reducible refine And.intro ?_ ?_) | (with_reducible intro _) | (with_reducible refine exP ?_ ?_))); all_goals (try omega)
    · rename_i hlt
      have hkl : k < l.length := by omega
      have h1 := hsz _ (List.getElem_mem hkl)
      refine call_pure (RLine_ok l[k] (by omega) k (by omega)) (by first | exact Subs.refl _ | (repeat' (first | exact Subs.nil | exact Sub.refl _ | exact Sub.lo (Nat.zero_le _) | refine Subs.cons ?_ ?_ | refine Subs.agg ?_ | refine Subs.fp ?_ | refine Subs.tup ?_ | refine Sub.map (Nat.zero_le _) (fun _ => ?_)))) (by first | rfl | simp [allP, all0, pureV, pure0, *]) (by simp [chk, hG]) ?_
      simp only [go_sem, hG, hOw, reduceIte, Nat.reduceLeDiff, Nat.le_refl, Nat.reduceEqDiff, Nat.reduceAdd, Nat.reduceLT, reduceCtorEq, Int.toNat_natCast]
      (repeat' (first | (with_reducible refine And.intro ?_ ?_) | (with_reducible intro _) | (with_reducible refine exP ?_ ?_))); all_goals (try omega)
      · rw [lineB_size]; omega
      · refine ⟨k + 1, by omega, by omega, ?_⟩
        rw [outB_succ l hkl]
        exact ent_of0 (by (simp only [go_sem, reduceIte, Nat.reduceLeDiff, Nat.le_refl, Nat.reduceEqDiff, Nat.reduceAdd, Nat.reduceLT, reduceCtorEq, Int.toNat_natCast]) <;> simp) hNm
    · rename_i hge hgt
      obtain rfl : k = l.length := by omega
      have : ¬ (outB l l.length).size ≤ 30000 := by omega
      simp only [wrS, wrE, h', if_true, this, if_false]
      exact .refl _
    · rename_i hge hgt
      obtain rfl : k = l.length := by omega
      have : (outB l l.length).size ≤ 30000 := by omega
      simp only [wrS, wrE, h', if_true, this]
      exact .refl _
end Go.Proofs.Ytgienbcekgokiaa
