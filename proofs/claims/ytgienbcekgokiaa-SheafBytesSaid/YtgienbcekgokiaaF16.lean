/- The program: the bytes of rows. -/
import Derived.Test.YtgienbcekgokiaaF15
import Derived.Test.YtgienbcekgokiaaBW2
namespace Go.Proofs.Ytgienbcekgokiaa
open Go Pm
set_option linter.unusedSimpArgs false
set_option linter.unusedVariables false
set_option maxHeartbeats 4000000
set_option maxRecDepth 100000
theorem chkB_size (s : ByteArray) (i : Int) : (chkB s i).size = 2 := rfl
theorem nil_app (x : ByteArray) : (⟨#[]⟩ : ByteArray) ++ x = x := by
  apply ByteArray.ext
  simp [ByteArray.data_append]
def byL (l : List ByteArray) (k : Nat) : List UInt8 := (outB l k).data.toList
theorem byL_len (l : List ByteArray) (k : Nat) : (byL l k).length = (outB l k).size := by unfold byL; rw [Array.length_toList]; rfl
theorem byL_one (l : List ByteArray) (h : 0 < l.length) : (lineB l[0] (0 : Nat)).data.toList = byL l (0 + 1) := by
  unfold byL
  rw [outB_succ l h, outB_zero, nil_app]
theorem byL_succ (l : List ByteArray) {k : Nat} (h : k < l.length) : byL l k ++ (lineB l[k] k).data.toList = byL l (k + 1) := by
  unfold byL
  rw [outB_succ l h, ByteArray.data_append, Array.toList_append]
def wrF (l : List ByteArray) : Nat → St
  | 0 => St.of [(5, .ptr 5 0), (13, strs 0 l), (14, i64 l.length), (15, i64 (0 : Nat))] [(5, .obj freshB)]
  | k + 1 => St.of [(5, .ptr 5 0), (13, strs 0 l), (14, i64 l.length), (15, i64 (k + 1 : Nat))] [(5, .box [.ptr 5 0, .own 9 0 (byL l (k + 1)).length 1]), (9, .arr 5 1 ((byL l (k + 1)).map byteE))]
theorem Write_ok (l : List ByteArray) : Gives Try.prog 19 [strs 0 l] (fun _ => .tup [.v (.string (wrS l)), i64 (wrE l)]) := by
  refine pure_intro (ow := fun _ => false) Try.func19 Try.ntmps19 rfl (by kernel_rfl) (by simp) rfl (by decide) fun G hG hOw hNm hB => ?_; simp only [go_sem, hG, hOw, reduceIte, Nat.reduceLeDiff, Nat.le_refl, Nat.reduceEqDiff, Nat.reduceAdd, Nat.reduceLT, reduceCtorEq, Int.toNat_natCast]
  refine call_pure (Check_ok l) (by first | exact Subs.refl _ | (repeat' (first | exact Subs.nil | exact Sub.refl _ | exact Sub.lo (Nat.zero_le _) | refine Subs.cons ?_ ?_ | refine Subs.agg ?_ | refine Subs.fp ?_ | refine Subs.tup ?_ | refine Sub.map (Nat.zero_le _) (fun _ => ?_)))) (by first | rfl | simp [allP, all0, pureV, pure0, *]) (by simp [chk, hG]) ?_
  by_cases h' : rowsB l = true
  · rw [if_pos h']
    have hln : l.length ≤ 200 := by unfold rowsB at h'; simp at h'; omega
    have hsz : ∀ s ∈ l, s.size ≤ 160 := fun s hs => by
      unfold rowsB at h'
      simp only [Bool.and_eq_true, List.all_eq_true] at h'
      exact rowB_size (h'.1 s hs)
    simp only [go_sem, hG, hOw, reduceIte, Nat.reduceLeDiff, Nat.le_refl, Nat.reduceEqDiff, Nat.reduceAdd, Nat.reduceLT, reduceCtorEq, Int.toNat_natCast]
    refine alloc_obj rfl rfl (by rw [hG]; decide) (by simp [go_sem]) (by kernel_rfl) ?_
    simp only [go_sem, hG, hOw, reduceIte, Nat.reduceLeDiff, Nat.le_refl, Nat.reduceEqDiff, Nat.reduceAdd, Nat.reduceLT, reduceCtorEq, Int.toNat_natCast]
    (repeat' (first | (with_reducible refine And.intro ?_ ?_) | (with_reducible intro _) | (with_reducible refine exP ?_ ?_))); all_goals (try omega)
    refine semC_loop (wrF l) (fun k => k ≤ l.length) (fun k => l.length - k) 0 (by simp) (by unfold wrF; exact ent_of [(5, some 5)] (by (simp only [go_sem, reduceIte, Nat.reduceLeDiff, Nat.le_refl, Nat.reduceEqDiff, Nat.reduceAdd, Nat.reduceLT, reduceCtorEq, Int.toNat_natCast]) <;> simp [freshB]) (by (simp only [go_sem, entH, entH1, nilArr, obOK, reduceIte, Nat.reduceLeDiff, Nat.le_refl, Nat.reduceEqDiff, Nat.reduceAdd, Nat.reduceLT, reduceCtorEq, Int.toNat_natCast]) <;> simp [freshB]) (by simp [injR, apart]) (by simp [coverR, usH]) (by simp [hNm, lkR, names])) ?_
    rintro k hk
    have ho := outB_size hsz k hk
    have step : ∀ hkl : k < l.length, (lineB l[k] k).size ≤ 164 := fun hkl => by
      have := hsz _ (List.getElem_mem hkl)
      rw [lineB_size]; omega
    rcases k with _ | k
    · unfold wrF
      dsimp only
      refine vc_sound _ _ _ ?_; simp only [go_sem, hG, hOw, reduceIte, Nat.reduceLeDiff, Nat.le_refl, Nat.reduceEqDiff, Nat.reduceAdd, Nat.reduceLT, reduceCtorEq, Int.toNat_natCast]
      (repeat' (first | (with_reducible refine And.intro ?_ ?_) | (with_reducible intro _) | (with_reducible refine exP ?_ ?_))); all_goals (try omega)
      · rename_i hlt
        have hkl : 0 < l.length := by omega
        have := step hkl
        rw [lineB_size] at this
        simp only [List.size_toArray, List.length_cons, List.length_nil]
        omega
      · rename_i hlt
        have hkl : 0 < l.length := by omega
        have hst := step hkl
        have hst' := hst
        rw [lineB_size] at hst'
        refine call_pure (check_ok l[0] (by omega) 0 (by omega)) (by first | exact Subs.refl _ | (repeat' (first | exact Subs.nil | exact Sub.refl _ | exact Sub.lo (Nat.zero_le _) | refine Subs.cons ?_ ?_ | refine Subs.agg ?_ | refine Subs.fp ?_ | refine Subs.tup ?_ | refine Sub.map (Nat.zero_le _) (fun _ => ?_)))) (by first | rfl | simp [allP, all0, pureV, pure0, *]) (by simp [chk, hG]) ?_
        simp only [go_sem, hG, hOw, reduceIte, Nat.reduceLeDiff, Nat.le_refl, Nat.reduceEqDiff, Nat.reduceAdd, Nat.reduceLT, reduceCtorEq, Int.toNat_natCast]
        have hz : (l[0] ++ ⟨#[32]⟩ ++ chkB l[0] 0 ++ ⟨#[10]⟩ : ByteArray) = lineB l[0] 0 := rfl
        rw [hz]
        (repeat' (first | (with_reducible refine And.intro ?_ ?_) | (with_reducible intro _) | (with_reducible refine exP ?_ ?_))); all_goals (try omega)
        · rw [chkB_size]; simp only [List.size_toArray, List.length_cons, List.length_nil]; omega
        · rw [chkB_size]; simp only [List.size_toArray, List.length_cons, List.length_nil]; omega
        · have W := WriteString_fresh (lineB l[0] (0 : Nat)) (by rw [lineB_size]; omega)
          rw [byL_one l hkl] at W
          unfold bldM at W
          refine call_tri [(0, 5)] [(1, 27)] (W) (by (simp only [go_sem, reduceIte, Nat.reduceLeDiff, Nat.le_refl, Nat.reduceEqDiff, Nat.reduceAdd, Nat.reduceLT, reduceCtorEq, Int.toNat_natCast]) <;> simp) (by (simp only [go_sem, entH, entH1, nilArr, obOK, reduceIte, Nat.reduceLeDiff, Nat.le_refl, Nat.reduceEqDiff, Nat.reduceAdd, Nat.reduceLT, reduceCtorEq, Int.toNat_natCast]) <;> simp) (by simp [injR, apart, toR]) (by simp [coverR, usH, toR]) (by simp [uniqP, lkR, toR]) (by simp [chk, hG]) ?_
          simp only [go_sem, hG, hOw, reduceIte, Nat.reduceLeDiff, Nat.le_refl, Nat.reduceEqDiff, Nat.reduceAdd, Nat.reduceLT, reduceCtorEq, Int.toNat_natCast]
          (repeat' (first | (with_reducible refine And.intro ?_ ?_) | (with_reducible intro _) | (with_reducible refine exP ?_ ?_))); all_goals (try omega)
          refine ⟨1, by omega, by omega, ?_⟩
          dsimp only
          exact ent_of [(5, some 5), (9, some 27)] (by (simp only [go_sem, reduceIte, Nat.reduceLeDiff, Nat.le_refl, Nat.reduceEqDiff, Nat.reduceAdd, Nat.reduceLT, reduceCtorEq, Int.toNat_natCast]) <;> simp) (by (simp only [go_sem, entH, entH1, nilArr, obOK, reduceIte, Nat.reduceLeDiff, Nat.le_refl, Nat.reduceEqDiff, Nat.reduceAdd, Nat.reduceLT, reduceCtorEq, Int.toNat_natCast]) <;> simp) (by simp [injR, apart]) (by simp [coverR, usH]) (by simp [hNm, lkR, names])
      · rename_i hge
        have h0 : l.length = 0 := by omega
        refine call_tri [(0, 5)] [] (Len_fresh) (by (simp only [go_sem, reduceIte, Nat.reduceLeDiff, Nat.le_refl, Nat.reduceEqDiff, Nat.reduceAdd, Nat.reduceLT, reduceCtorEq, Int.toNat_natCast]) <;> simp) (by (simp only [go_sem, entH, entH1, nilArr, obOK, reduceIte, Nat.reduceLeDiff, Nat.le_refl, Nat.reduceEqDiff, Nat.reduceAdd, Nat.reduceLT, reduceCtorEq, Int.toNat_natCast]) <;> simp) (by simp [injR, apart, toR]) (by simp [coverR, usH, toR]) (by simp [uniqP, lkR, toR]) (by simp [chk, hG]) ?_
        simp only [go_sem, hG, hOw, reduceIte, Nat.reduceLeDiff, Nat.le_refl, Nat.reduceEqDiff, Nat.reduceAdd, Nat.reduceLT, reduceCtorEq, Int.toNat_natCast]
        (repeat' (first | (with_reducible refine And.intro ?_ ?_) | (with_reducible intro _) | (with_reducible refine exP ?_ ?_))); all_goals (try omega)
        refine call_tri [(0, 5)] [] (String_fresh) (by (simp only [go_sem, reduceIte, Nat.reduceLeDiff, Nat.le_refl, Nat.reduceEqDiff, Nat.reduceAdd, Nat.reduceLT, reduceCtorEq, Int.toNat_natCast]) <;> simp) (by (simp only [go_sem, entH, entH1, nilArr, obOK, reduceIte, Nat.reduceLeDiff, Nat.le_refl, Nat.reduceEqDiff, Nat.reduceAdd, Nat.reduceLT, reduceCtorEq, Int.toNat_natCast]) <;> simp) (by simp [injR, apart, toR]) (by simp [coverR, usH, toR]) (by simp [uniqP, lkR, toR]) (by simp [chk, hG]) ?_
        simp only [go_sem, hG, hOw, reduceIte, Nat.reduceLeDiff, Nat.le_refl, Nat.reduceEqDiff, Nat.reduceAdd, Nat.reduceLT, reduceCtorEq, Int.toNat_natCast]
        have hsz0 : (outB l l.length).size ≤ 30000 := by have := outB_size hsz l.length (Nat.le_refl _); omega
        simp only [wrS, wrE, h', if_true, hsz0]
        rw [h0]
        exact Sub.refl _
    · unfold wrF
      dsimp only
      have hby : ∀ x : ByteArray, x.data.toList.length = x.size := fun x => by rw [Array.length_toList]; rfl
      refine vc_sound _ _ _ ?_; simp only [go_sem, hG, hOw, reduceIte, Nat.reduceLeDiff, Nat.le_refl, Nat.reduceEqDiff, Nat.reduceAdd, Nat.reduceLT, reduceCtorEq, Int.toNat_natCast]
      (repeat' (first | (with_reducible refine And.intro ?_ ?_) | (with_reducible intro _) | (with_reducible refine exP ?_ ?_))); all_goals (try omega)
      · rename_i hlt
        have hkl : k + 1 < l.length := by omega
        have := step hkl
        rw [lineB_size] at this
        simp only [List.size_toArray, List.length_cons, List.length_nil]
        omega
      · rename_i hlt
        have hkl : k + 1 < l.length := by omega
        have hst := step hkl
        have hst' := hst
        rw [lineB_size] at hst'
        refine call_pure (check_ok l[k + 1] (by omega) (k + 1 : Nat) (by omega)) (by first | exact Subs.refl _ | (repeat' (first | exact Subs.nil | exact Sub.refl _ | exact Sub.lo (Nat.zero_le _) | refine Subs.cons ?_ ?_ | refine Subs.agg ?_ | refine Subs.fp ?_ | refine Subs.tup ?_ | refine Sub.map (Nat.zero_le _) (fun _ => ?_)))) (by first | rfl | simp [allP, all0, pureV, pure0, *]) (by simp [chk, hG]) ?_
        simp only [go_sem, hG, hOw, reduceIte, Nat.reduceLeDiff, Nat.le_refl, Nat.reduceEqDiff, Nat.reduceAdd, Nat.reduceLT, reduceCtorEq, Int.toNat_natCast]
        have hz : (l[k + 1] ++ ⟨#[32]⟩ ++ chkB l[k + 1] (k + 1 : Nat) ++ ⟨#[10]⟩ : ByteArray) = lineB l[k + 1] (k + 1 : Nat) := rfl
        rw [hz]
        (repeat' (first | (with_reducible refine And.intro ?_ ?_) | (with_reducible intro _) | (with_reducible refine exP ?_ ?_))); all_goals (try omega)
        · rw [chkB_size]; simp only [List.size_toArray, List.length_cons, List.length_nil]; omega
        · rw [chkB_size]; simp only [List.size_toArray, List.length_cons, List.length_nil]; omega
        · have W := WriteString_used (byL l (k + 1)) (lineB l[k + 1] (k + 1 : Nat)) (by rw [byL_len, lineB_size]; omega)
          rw [byL_succ l hkl] at W
          unfold bldM at W
          refine call_tri [(0, 5), (1, 9)] [(2, 27)] (W) (by (simp only [go_sem, reduceIte, Nat.reduceLeDiff, Nat.le_refl, Nat.reduceEqDiff, Nat.reduceAdd, Nat.reduceLT, reduceCtorEq, Int.toNat_natCast]) <;> simp) (by (simp only [go_sem, entH, entH1, nilArr, obOK, reduceIte, Nat.reduceLeDiff, Nat.le_refl, Nat.reduceEqDiff, Nat.reduceAdd, Nat.reduceLT, reduceCtorEq, Int.toNat_natCast]) <;> simp) (by simp [injR, apart, toR]) (by simp [coverR, usH, toR]) (by simp [uniqP, lkR, toR]) (by simp [chk, hG]) ?_
          simp only [go_sem, hG, hOw, reduceIte, Nat.reduceLeDiff, Nat.le_refl, Nat.reduceEqDiff, Nat.reduceAdd, Nat.reduceLT, reduceCtorEq, Int.toNat_natCast]
          (repeat' (first | (with_reducible refine And.intro ?_ ?_) | (with_reducible intro _) | (with_reducible refine exP ?_ ?_))); all_goals (try omega)
          refine ⟨k + 1 + 1, by omega, by omega, ?_⟩
          dsimp only
          exact ent_of [(5, some 5), (9, some 27)] (by (simp only [go_sem, reduceIte, Nat.reduceLeDiff, Nat.le_refl, Nat.reduceEqDiff, Nat.reduceAdd, Nat.reduceLT, reduceCtorEq, Int.toNat_natCast]) <;> simp) (by (simp only [go_sem, entH, entH1, nilArr, obOK, reduceIte, Nat.reduceLeDiff, Nat.le_refl, Nat.reduceEqDiff, Nat.reduceAdd, Nat.reduceLT, reduceCtorEq, Int.toNat_natCast]) <;> simp) (by simp [injR, apart]) (by simp [coverR, usH]) (by simp [hNm, lkR, names])
      · rename_i hge
        have h0 : k + 1 = l.length := by omega
        have hle := outB_size hsz l.length (Nat.le_refl _)
        have hpos : byL l (k + 1) ≠ [] := by
          intro h
          have := byL_len l (k + 1)
          rw [h, outB_succ l (by omega), ByteArray.size_append, lineB_size] at this
          simp at this
        have W1 := Len_used (byL l (k + 1))
        have W2 := String_used (byL l (k + 1)) hpos
        unfold bldM at W1 W2
        have hlen := byL_len l (k + 1)
        rw [h0] at hlen
        refine call_tri [(0, 5), (1, 9)] [] (W1) (by (simp only [go_sem, reduceIte, Nat.reduceLeDiff, Nat.le_refl, Nat.reduceEqDiff, Nat.reduceAdd, Nat.reduceLT, reduceCtorEq, Int.toNat_natCast]) <;> simp) (by (simp only [go_sem, entH, entH1, nilArr, obOK, reduceIte, Nat.reduceLeDiff, Nat.le_refl, Nat.reduceEqDiff, Nat.reduceAdd, Nat.reduceLT, reduceCtorEq, Int.toNat_natCast]) <;> simp) (by simp [injR, apart, toR]) (by simp [coverR, usH, toR]) (by simp [uniqP, lkR, toR]) (by simp [chk, hG]) ?_
        simp only [go_sem, hG, hOw, reduceIte, Nat.reduceLeDiff, Nat.le_refl, Nat.reduceEqDiff, Nat.reduceAdd, Nat.reduceLT, reduceCtorEq, Int.toNat_natCast]
        (repeat' (first | (with_reducible refine And.intro ?_ ?_) | (with_reducible intro _) | (with_reducible refine exP ?_ ?_))); all_goals (try omega)
        · rename_i hgt
          rw [h0] at hgt
          have : ¬ (outB l l.length).size ≤ 30000 := by omega
          simp only [wrS, wrE, h', if_true, this, if_false]
          exact Sub.refl _
        · rename_i hgt
          rw [h0] at hgt
          have : (outB l l.length).size ≤ 30000 := by omega
          refine call_tri [(0, 5), (1, 9)] [] (W2) (by (simp only [go_sem, reduceIte, Nat.reduceLeDiff, Nat.le_refl, Nat.reduceEqDiff, Nat.reduceAdd, Nat.reduceLT, reduceCtorEq, Int.toNat_natCast]) <;> simp) (by (simp only [go_sem, entH, entH1, nilArr, obOK, reduceIte, Nat.reduceLeDiff, Nat.le_refl, Nat.reduceEqDiff, Nat.reduceAdd, Nat.reduceLT, reduceCtorEq, Int.toNat_natCast]) <;> simp) (by simp [injR, apart, toR]) (by simp [coverR, usH, toR]) (by simp [uniqP, lkR, toR]) (by simp [chk, hG]) ?_
          simp only [go_sem, hG, hOw, reduceIte, Nat.reduceLeDiff, Nat.le_refl, Nat.reduceEqDiff, Nat.reduceAdd, Nat.reduceLT, reduceCtorEq, Int.toNat_natCast]
          simp only [wrS, wrE, h', if_true, this]
          rw [h0, show (⟨(byL l l.length).toArray⟩ : ByteArray) = outB l l.length by unfold byL; rw [Array.toArray_toList]]
          exact Sub.refl _
  · rw [if_neg h']
    simp only [go_sem, hG, hOw, reduceIte, Nat.reduceLeDiff, Nat.le_refl, Nat.reduceEqDiff, Nat.reduceAdd, Nat.reduceLT, reduceCtorEq, Int.toNat_natCast]
    (repeat' (first | (with_reducible refine And.intro ?_ ?_) | (with_reducible intro _) | (with_reducible refine exP ?_ ?_))); all_goals (try omega)
    simp only [wrS, wrE, if_neg h']
    exact .refl _
end Go.Proofs.Ytgienbcekgokiaa
