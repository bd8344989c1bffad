import Derived.Test.YtfnohnjnncjidaaGreatDoorQS32
import Derived.Test.YtfnohnjnncjidaaGreatDoorQS37
import Derived.Test.YtfnohnjnncjidaaGreatDoorQS45
namespace Go.Proofs.YtfnohnjnncjidaaGreatDoor
open Go Pm
set_option linter.unusedSimpArgs false
set_option linter.unusedVariables false
set_option maxHeartbeats 4000000
set_option maxRecDepth 100000
def wI (w : Bool) : Nat := if w = true then 1 else 0
theorem costAt_cAt (a b : List Ln) (i k : Nat) (w : Bool) (h : w = true → 0 < i) : costAt a b i k (wI w) = cAt a b i k w := by
  unfold costAt cAt lastOf prevL wI
  cases w with
  | false => simp
  | true => simp [h rfl]
abbrev rxS (lo : Nat) (r : Ro) (fr : Int) (A B : List Ln) (Tb : List (List (Int × Int))) (i k : Nat) (w : Bool) (L : List Ft) (more : List (Nat × V)) : St :=
  St.of ([(2, .ptr 2 0), (7, i64 fr), (8, .lst lo 1 (A.map (lnE 0))), (9, lns 0 B), (10, tabP lo Tb), (11, .own 30 0 L.length 3), (12, i64 i), (13, i64 k), (14, i64 (wI w))] ++ more) [(2, .box (roC 0 r)), (30, .arr 82 3 (L.map ftE))]
theorem rx_step (r : Ro) (fr : Int) (A B : List Ln) (hO : OkS A B) (hfr : 0 ≤ fr ∧ fr ≤ 1000) (Tb : List (List (Int × Int))) (hTb : Tb = (List.range (A.length + 1)).map (csRow A B)) (i k : Nat) (w : Bool) (L : List Ft) (hi : i ≤ A.length) (hk : k ≤ B.length) (hw : w = true → 0 < i) (hL : L.length ≤ 5000)
    (hne : ¬ (i = A.length ∧ k = B.length)) (hlt : cAt A B i k w < 1073741824) {G : Gh} (hG : G.n = 204) (hOw : G.ow = fun _ => false) (hNm : G.nm = []) {Q : Exit → St → Prop}
    (hQ : ∀ st', Ent G st' (rxS G.lo r fr A B Tb (stN A B i k w (stJ A B i k w)).1 (stN A B i k w (stJ A B i k w)).2.1 (stN A B i k w (stJ A B i k w)).2.2 (L ++ stF A B fr i k (stJ A B i k w)) []) → Q .normal st') :
    SemL Tryz.prog G (flat (bkOf 1 Tryz.f17.body)) (rxS G.lo r fr A B Tb i k w L []) Q := by
  have hTl : Tb.length = A.length + 1 := by rw [hTb]; simp
  have hTg : ∀ j h, Tb[j]'h = csRow A B j := fun j h => by subst hTb; simp
  have hRl := csRow_len A B
  have hRg := csRow_get A B
  have hna := hO.na
  have hnb := hO.nb
  have e10 : Int.toNat 0 = 0 := rfl
  have e11 : Int.toNat 1 = 1 := rfl
  have ek1 : ((k : Int) + 1).toNat = k + 1 := by omega
  have ei1 : ((i : Int) + 1).toNat = i + 1 := by omega
  obtain ⟨s1, s2⟩ := stJ_ok A B i k w hi hk hw hne hlt
  have hcw : costAt A B i k (wI w) = cAt A B i k w := costAt_cAt A B i k w hw
  have bd := fun i k => costAt_bd A B i k 1
  have bf := hO.few i k
  unfold Tryz.f17
  simp only [rgOf, bkOf, rgO, bkO, orElse, Option.bind_some, Option.getD_some, reduceIte, Nat.reduceEqDiff, reduceCtorEq]
  simp only [flat, List.cons_append, List.nil_append, List.append_assoc, List.take_succ_cons, List.take_zero, List.take_nil, List.drop_succ_cons, List.drop_zero]
  refine semL_midN 4 (fun _ : Unit => rxS G.lo r fr A B Tb i k w L [(15, i64 (cAt A B i k w)), (16, i64 (lfew A B i k))]) (fun _ => True) ?_ ?_
  · simp only [flat, List.cons_append, List.nil_append, List.append_assoc, List.take_succ_cons, List.take_zero, List.take_nil, List.drop_succ_cons, List.drop_zero]
    refine vcN_sound 5 _ _ ?_
    by_cases hr1 : i < A.length ∧ k < B.length
    · obtain ⟨g1, g2⟩ := hr1
      have hiT : ((i : Int) < (A.length : Int)) = True := eq_true (by omega)
      have hkT : ((k : Int) < (B.length : Int)) = True := eq_true (by omega)
      have hla := lineB_len (hO.la _ (List.getElem_mem g1))
      have hlb := lineB_len (hO.lb _ (List.getElem_mem g2))
      have ef : lfew A B i k = few A[i] B[k] := by
        unfold lfew readB
        rw [if_pos (by simp [g1, g2]), List.getElem?_eq_getElem g1, List.getElem?_eq_getElem g2]; rfl
      cases w with
      | false =>
        have hw0 : wI false = 0 := rfl
        rw [hw0] at hcw
        simp (maxSteps := 2000000) only [go_sem, hG, hOw, hw0, hiT, hkT, hTl, hTg, hRl, hRg, e10, e11, decide_true, decide_false, List.drop_succ_cons, List.drop_zero, Option.getD_some, Nat.mul_one, Nat.add_zero]
        (repeat' with_reducible first | refine And.intro ?_ ?_ | intro _ | refine exP ?_ ?_); all_goals try omega
        refine semC_draw0 mixed (by kernel_rfl) ?_
        simp (maxSteps := 2000000) only [go_sem, hG, hOw, hw0]
        (repeat' with_reducible first | refine And.intro ?_ ?_ | intro _ | refine exP ?_ ?_); all_goals try omega
        refine ⟨_, callGivesA (distance_ok A[i] B[k] (by omega) (by omega)), ?_⟩
        simp (maxSteps := 2000000) only [go_sem, hG, hOw, hw0]
        (repeat' with_reducible first | refine And.intro ?_ ?_ | intro _ | refine exP ?_ ?_); all_goals try omega
        exact ⟨(), entA [(2, some 2), (30, some 30)] (by (simp only [go_sem]) <;> simp [hcw,ef,hw0]) (by (simp only [go_sem, entH, entH1, nilArr, obOK]) <;> simp [hcw,ef,hw0])⟩
      | true =>
        have hw0 : wI true = 1 := rfl
        rw [hw0] at hcw
        simp (maxSteps := 2000000) only [go_sem, hG, hOw, hw0, hiT, hkT, hTl, hTg, hRl, hRg, e10, e11, decide_true, decide_false, List.drop_succ_cons, List.drop_zero, Option.getD_some, Nat.mul_one, Nat.add_zero]
        (repeat' with_reducible first | refine And.intro ?_ ?_ | intro _ | refine exP ?_ ?_); all_goals try omega
        refine semC_draw0 mixed (by kernel_rfl) ?_
        simp (maxSteps := 2000000) only [go_sem, hG, hOw, hw0]
        (repeat' with_reducible first | refine And.intro ?_ ?_ | intro _ | refine exP ?_ ?_); all_goals try omega
        refine ⟨_, callGivesA (distance_ok A[i] B[k] (by omega) (by omega)), ?_⟩
        simp (maxSteps := 2000000) only [go_sem, hG, hOw, hw0]
        (repeat' with_reducible first | refine And.intro ?_ ?_ | intro _ | refine exP ?_ ?_); all_goals try omega
        exact ⟨(), entA [(2, some 2), (30, some 30)] (by (simp only [go_sem]) <;> simp [hcw,ef,hw0]) (by (simp only [go_sem, entH, entH1, nilArr, obOK]) <;> simp [hcw,ef,hw0])⟩
    · have ef : lfew A B i k = 0 := by
        unfold lfew readB
        rw [if_neg (by simp only [Bool.and_eq_true, decide_eq_true_eq]; exact hr1)]
      cases w with
      | false =>
        have hw0 : wI false = 0 := rfl
        rw [hw0] at hcw
        by_cases g1 : i < A.length
        · have hiT : ((i : Int) < (A.length : Int)) = True := eq_true (by omega)
          have hkT : ((k : Int) < (B.length : Int)) = False := eq_false (by omega)
          simp (maxSteps := 2000000) only [go_sem, hG, hOw, hw0, hiT, hkT, hTl, hTg, hRl, hRg, e10, e11, decide_true, decide_false, List.drop_succ_cons, List.drop_zero, Option.getD_some, Nat.mul_one, Nat.add_zero]
          (repeat' with_reducible first | refine And.intro ?_ ?_ | intro _ | refine exP ?_ ?_); all_goals try omega
          exact ⟨(), entA [(2, some 2), (30, some 30)] (by (simp only [go_sem]) <;> simp [hcw,ef,hw0]) (by (simp only [go_sem, entH, entH1, nilArr, obOK]) <;> simp [hcw,ef,hw0])⟩
        · have hiT : ((i : Int) < (A.length : Int)) = False := eq_false (by omega)
          have hkT : True := trivial
          simp (maxSteps := 2000000) only [go_sem, hG, hOw, hw0, hiT, hTl, hTg, hRl, hRg, e10, e11, decide_true, decide_false, List.drop_succ_cons, List.drop_zero, Option.getD_some, Nat.mul_one, Nat.add_zero]
          (repeat' with_reducible first | refine And.intro ?_ ?_ | intro _ | refine exP ?_ ?_); all_goals try omega
          exact ⟨(), entA [(2, some 2), (30, some 30)] (by (simp only [go_sem]) <;> simp [hcw,ef,hw0]) (by (simp only [go_sem, entH, entH1, nilArr, obOK]) <;> simp [hcw,ef,hw0])⟩
      | true =>
        have hw0 : wI true = 1 := rfl
        rw [hw0] at hcw
        by_cases g1 : i < A.length
        · have hiT : ((i : Int) < (A.length : Int)) = True := eq_true (by omega)
          have hkT : ((k : Int) < (B.length : Int)) = False := eq_false (by omega)
          simp (maxSteps := 2000000) only [go_sem, hG, hOw, hw0, hiT, hkT, hTl, hTg, hRl, hRg, e10, e11, decide_true, decide_false, List.drop_succ_cons, List.drop_zero, Option.getD_some, Nat.mul_one, Nat.add_zero]
          (repeat' with_reducible first | refine And.intro ?_ ?_ | intro _ | refine exP ?_ ?_); all_goals try omega
          exact ⟨(), entA [(2, some 2), (30, some 30)] (by (simp only [go_sem]) <;> simp [hcw,ef,hw0]) (by (simp only [go_sem, entH, entH1, nilArr, obOK]) <;> simp [hcw,ef,hw0])⟩
        · have hiT : ((i : Int) < (A.length : Int)) = False := eq_false (by omega)
          have hkT : True := trivial
          simp (maxSteps := 2000000) only [go_sem, hG, hOw, hw0, hiT, hTl, hTg, hRl, hRg, e10, e11, decide_true, decide_false, List.drop_succ_cons, List.drop_zero, Option.getD_some, Nat.mul_one, Nat.add_zero]
          (repeat' with_reducible first | refine And.intro ?_ ?_ | intro _ | refine exP ?_ ?_); all_goals try omega
          exact ⟨(), entA [(2, some 2), (30, some 30)] (by (simp only [go_sem]) <;> simp [hcw,ef,hw0]) (by (simp only [go_sem, entH, entH1, nilArr, obOK]) <;> simp [hcw,ef,hw0])⟩
  rintro ⟨⟩ -
  simp only [flat, List.cons_append, List.nil_append, List.append_assoc, List.take_succ_cons, List.take_zero, List.take_nil, List.drop_succ_cons, List.drop_zero]
  refine semL_blk ?_
  simp only [flat, List.cons_append, List.nil_append, List.append_assoc, List.take_succ_cons, List.take_zero, List.take_nil, List.drop_succ_cons, List.drop_zero]
  refine semL_midN 1 (fun _ : Unit => rxS G.lo r fr A B Tb i k w L [(15, i64 (cAt A B i k w)), (16, i64 (lfew A B i k)), (117, bl (onB A B i k w 0))]) (fun _ => True) ?_ ?_
  · simp only [flat, List.cons_append, List.nil_append, List.append_assoc, List.take_succ_cons, List.take_zero, List.take_nil, List.drop_succ_cons, List.drop_zero]
    refine vcN_sound 2 _ _ ?_
    cases w with
    | false =>
      have hw0 : wI false = 0 := rfl
      have ho : onB A B i k false 0 = false := by simp [onB, stI, repB]
      simp only [go_sem, hG, hOw]
      refine semC_draw0 mixed (by kernel_rfl) ?_
      simp (maxSteps := 2000000) only [go_sem, hG, hOw, hw0, decide_false]
      (repeat' with_reducible first | refine And.intro ?_ ?_ | intro _ | refine exP ?_ ?_); all_goals try omega
      exact ⟨(), entA [(2, some 2), (30, some 30)] (by (simp only [go_sem]) <;> simp [ho,hw0]) (by (simp only [go_sem, entH, entH1, nilArr, obOK]) <;> simp [ho,hw0])⟩
    | true =>
      have hw0 : wI true = 1 := rfl
      have hi0 := hw rfl
      by_cases g3 : k < B.length
      · have gT3 : ((k : Int) < (B.length : Int)) = True := eq_true (by omega)
        have ei : ((i : Int) - 1).toNat = i - 1 := by omega
        have hi1 : i - 1 < A.length := by omega
        have ga := List.getElem?_eq_getElem hi1
        have gb := List.getElem?_eq_getElem g3
        have hcn : costAt A B i (k + 1) 1 = cAt A B i (k + 1) true := costAt_cAt A B i (k + 1) true hw
        have b2 := bd i (k + 1)
        have hnv : never = 1073741824 := rfl
        have hrp : ∀ b, decide (A[i - 1] = B[k]) = b → repB A B i k true = b := fun b h => by
          unfold repB
          rw [ga, gb, ← h]
          simp [g3]
        simp only [go_sem, hG, hOw]
        refine semC_draw0 mixed (by kernel_rfl) ?_
        simp (maxSteps := 2000000) only [go_sem, hG, hOw, hw0, gT3, ei, decide_true, decide_false]
        (repeat' with_reducible first | refine And.intro ?_ ?_ | intro _ | refine exP ?_ ?_); all_goals try omega
        refine ⟨_, callGivesA (SameWords_ok A[i - 1] B[k]), ?_⟩
        by_cases heq : A[i - 1] = B[k]
        · have hr0 := hrp true (decide_eq_true heq)
          have ho : onB A B i k true 0 = decide (1 + costAt A B i (k + 1) 1 = cAt A B i k true) := by
            have h1 : stI A B i k true 0 = true := hr0
            have h2 : stC A B i k 0 + cOf A B (stN A B i k true 0) = 1 + cAt A B i (k + 1) true := rfl
            unfold onB
            rw [h1, h2, Bool.true_and, hcn]
          simp (maxSteps := 2000000) only [go_sem, hG, hOw, heq, ek1, decide_true, decide_false, hTl, hTg, hRl, hRg, e10, e11, decide_true, decide_false, List.drop_succ_cons, List.drop_zero, Option.getD_some, Nat.mul_one, Nat.add_zero]
          (repeat' with_reducible first | refine And.intro ?_ ?_ | intro _ | refine exP ?_ ?_); all_goals try omega
          exact ⟨(), entA [(2, some 2), (30, some 30)] (by (simp only [go_sem]) <;> simp [ho,hw0]) (by (simp only [go_sem, entH, entH1, nilArr, obOK]) <;> simp [ho,hw0])⟩
        · have hr0 := hrp false (decide_eq_false heq)
          have ho : onB A B i k true 0 = false := by
            have h1 : stI A B i k true 0 = false := hr0
            unfold onB
            rw [h1, Bool.false_and]
          simp (maxSteps := 2000000) only [go_sem, hG, hOw, heq, decide_true, decide_false]
          (repeat' with_reducible first | refine And.intro ?_ ?_ | intro _ | refine exP ?_ ?_); all_goals try omega
          exact ⟨(), entA [(2, some 2), (30, some 30)] (by (simp only [go_sem]) <;> simp [ho,hw0]) (by (simp only [go_sem, entH, entH1, nilArr, obOK]) <;> simp [ho,hw0])⟩
      · have gT3 : ((k : Int) < (B.length : Int)) = False := eq_false (by omega)
        have ho : onB A B i k true 0 = false := by simp [onB, stI, repB, g3]
        simp only [go_sem, hG, hOw]
        refine semC_draw0 mixed (by kernel_rfl) ?_
        simp (maxSteps := 2000000) only [go_sem, hG, hOw, hw0, gT3, decide_true, decide_false]
        (repeat' with_reducible first | refine And.intro ?_ ?_ | intro _ | refine exP ?_ ?_); all_goals try omega
        exact ⟨(), entA [(2, some 2), (30, some 30)] (by (simp only [go_sem]) <;> simp [ho,hw0]) (by (simp only [go_sem, entH, entH1, nilArr, obOK]) <;> simp [ho,hw0])⟩
  rintro ⟨⟩ -
  simp only [flat, List.cons_append, List.nil_append, List.append_assoc, List.take_succ_cons, List.take_zero, List.take_nil, List.drop_succ_cons, List.drop_zero]
  refine vcN_sound 2 _ _ ?_
  have efr : fr + ((i : Int) + 1) - 1 = fr + i := by omega
  cases h0 : onB A B i k w 0 with
  | true =>
    have hJ : stJ A B i k w = 0 := by unfold stJ; rw [if_pos h0]
    have hwt : w = true := by cases w with | true => rfl | false => simp [onB, stI, repB] at h0
    subst hwt
    have hi0 := hw rfl
    rw [hJ] at hQ
    have hN : stN A B i k true 0 = (i, k + 1, true) := rfl
    have hF : stF A B fr i k 0 = [⟨2, fr + i - 1, 0⟩] := rfl
    rw [hN, hF] at hQ
    have hw0 : wI true = 1 := rfl
    simp only [go_sem, hG, hOw]
    (repeat' with_reducible first | refine And.intro ?_ ?_ | intro _ | refine exP ?_ ?_); all_goals try omega
    refine vcN_sound 1 _ _ ?_
    simp only [go_sem, hG, hOw]
    refine hQ _ ?_
    exact entA [(2, some 2), (30, some 159)] (by (simp only [go_sem]) <;> simp [ftE,hw0]) (by (simp only [go_sem, entH, entH1, nilArr, obOK]) <;> simp [ftE,hw0])
  | false =>
    have hF0 : onB A B i k w 0 = false := h0
    cases h1 : onB A B i k w 1 with
    | true =>
      have hJ : stJ A B i k w = 1 := by unfold stJ; rw [if_neg (by rw [h0]; decide), if_pos h1]
      simp only [onB, stI, stC, Bool.and_eq_true, decide_eq_true_eq] at h1
      obtain ⟨h1, h2⟩ := h1
      have hN : stN A B i k w 1 = (i + 1, k + 1, true) := by simp [stN, h1]
      have hF : stF A B fr i k 1 = if 0 < lfew A B i k then [⟨3, fr + i, lfew A B i k⟩] else [] := rfl
      rw [hJ, hN, hF] at hQ
      rw [hN] at h2
      have hcn : costAt A B (i + 1) (k + 1) 1 = cAt A B (i + 1) (k + 1) true := costAt_cAt A B (i + 1) (k + 1) true (by omega)
      simp only [readB, Bool.and_eq_true, decide_eq_true_eq] at h1
      have hiT : ((i : Int) < (A.length : Int)) = True := eq_true (by omega)
      have hkT : ((k : Int) < (B.length : Int)) = True := eq_true (by omega)
      have hE : (lfew A B i k + costAt A B (i + 1) (k + 1) 1 = cAt A B i k w) = True := eq_true (by rw [hcn]; exact h2)
      have b2 := bd (i + 1) (k + 1)
      have hnv : never = 1073741824 := rfl
      have hw0 : wI true = 1 := rfl
      by_cases hpos : 0 < lfew A B i k
      · have hpT : (0 < lfew A B i k) = True := eq_true hpos
        rw [if_pos hpos] at hQ
        simp (maxSteps := 2000000) only [go_sem, hG, hOw, hiT, hkT, hE, hpT, hTl, hTg, hRl, hRg, e10, e11, ek1, ei1, decide_true, decide_false, List.drop_succ_cons, List.drop_zero, Option.getD_some, Nat.mul_one, Nat.add_zero]
        (repeat' with_reducible first | refine And.intro ?_ ?_ | intro _ | refine exP ?_ ?_); all_goals try omega
        refine vcN_sound 1 _ _ ?_
        simp only [go_sem, hG, hOw]
        refine hQ _ ?_
        exact entA [(2, some 2), (30, some 198)] (by (simp only [go_sem]) <;> simp [ftE,hw0]) (by (simp only [go_sem, entH, entH1, nilArr, obOK]) <;> simp [ftE,hw0])
      · have hpF : (0 < lfew A B i k) = False := eq_false hpos
        rw [if_neg hpos, List.append_nil] at hQ
        simp (maxSteps := 2000000) only [go_sem, hG, hOw, hiT, hkT, hE, hpF, hTl, hTg, hRl, hRg, e10, e11, ek1, ei1, decide_true, decide_false, List.drop_succ_cons, List.drop_zero, Option.getD_some, Nat.mul_one, Nat.add_zero]
        (repeat' with_reducible first | refine And.intro ?_ ?_ | intro _ | refine exP ?_ ?_); all_goals try omega
        refine vcN_sound 1 _ _ ?_
        simp only [go_sem, hG, hOw]
        refine hQ _ ?_
        exact entA [(2, some 2), (30, some 30)] (by (simp only [go_sem]) <;> simp [ftE,hw0]) (by (simp only [go_sem, entH, entH1, nilArr, obOK]) <;> simp [ftE,hw0])
    | false =>
      have hJ : stJ A B i k w = 2 := by unfold stJ; rw [if_neg (by rw [h0]; decide), if_neg (by rw [h1]; decide)]
      rw [hJ] at s1
      simp only [onB, stI, skipB, Bool.and_eq_true, decide_eq_true_eq] at s1
      have g1 := s1.1
      have hN : stN A B i k w 2 = (i + 1, k, false) := rfl
      have hF : stF A B fr i k 2 = [⟨1, fr + i, 0⟩] := rfl
      rw [hJ, hN, hF] at hQ
      have hiT : ((i : Int) < (A.length : Int)) = True := eq_true (by omega)
      have hw0 : wI false = 0 := rfl
      by_cases g2 : k < B.length
      · have hkT : ((k : Int) < (B.length : Int)) = True := eq_true (by omega)
        have hcn : costAt A B (i + 1) (k + 1) 1 = cAt A B (i + 1) (k + 1) true := costAt_cAt A B (i + 1) (k + 1) true (by omega)
        have hE : (lfew A B i k + costAt A B (i + 1) (k + 1) 1 = cAt A B i k w) = False := eq_false fun h => by
          have hrb : readB A B i k = true := by simp [readB, g1, g2]
          have hN1 : stN A B i k w 1 = (i + 1, k + 1, true) := by simp [stN, hrb]
          have : onB A B i k w 1 = true := by
            unfold onB
            rw [hN1]
            simp only [stI, stC, hrb, Bool.true_and, decide_eq_true_eq, cOf]
            rw [← hcn]; exact h
          rw [this] at h1
          cases h1
        have b2 := bd (i + 1) (k + 1)
        have hnv : never = 1073741824 := rfl
        simp (maxSteps := 2000000) only [go_sem, hG, hOw, hiT, hkT, hE, hTl, hTg, hRl, hRg, e10, e11, ek1, ei1, decide_true, decide_false, List.drop_succ_cons, List.drop_zero, Option.getD_some, Nat.mul_one, Nat.add_zero]
        (repeat' with_reducible first | refine And.intro ?_ ?_ | intro _ | refine exP ?_ ?_); all_goals try omega
        refine vcN_sound 1 _ _ ?_
        simp only [go_sem, hG, hOw]
        refine hQ _ ?_
        exact entA [(2, some 2), (30, some 114)] (by (simp only [go_sem]) <;> simp [ftE,hw0]) (by (simp only [go_sem, entH, entH1, nilArr, obOK]) <;> simp [ftE,hw0])
      · have hkT : ((k : Int) < (B.length : Int)) = False := eq_false (by omega)
        simp (maxSteps := 2000000) only [go_sem, hG, hOw, hiT, hkT, hTl, hTg, hRl, hRg, e10, e11, ek1, ei1, decide_true, decide_false, List.drop_succ_cons, List.drop_zero, Option.getD_some, Nat.mul_one, Nat.add_zero]
        (repeat' with_reducible first | refine And.intro ?_ ?_ | intro _ | refine exP ?_ ?_); all_goals try omega
        refine vcN_sound 1 _ _ ?_
        simp only [go_sem, hG, hOw]
        refine hQ _ ?_
        exact entA [(2, some 2), (30, some 114)] (by (simp only [go_sem]) <;> simp [ftE,hw0]) (by (simp only [go_sem, entH, entH1, nilArr, obOK]) <;> simp [ftE,hw0])
open Go Pm
set_option maxHeartbeats 4000000
set_option maxRecDepth 100000
theorem RExplain_ok (r : Ro) (hr : OKr r) (n : Int) : Gives Tryz.prog 17 [roE 0 r, i64 n] (fun N => .tup [fts N (explL r n), i64 (explE r n)]) := by
  have hs12 := hr.s
  by_cases hE : backE r n = 0
  · have he : roundE r = 0 := by
      false_or_by_contra
      rename_i h
      simp [backE, h] at hE
    have hn : inB n 0 (r.shares.length - 1) = true := by
      cases h : inB n 0 (r.shares.length - 1) with
      | true => rfl
      | false => simp [backE, he, h] at hE
    have hg := good_of hr he
    have hin := hn
    simp only [inB, Bool.and_eq_true, decide_eq_true_eq] at hn
    obtain ⟨k, rfl⟩ : ∃ k : Nat, n = k := ⟨n.toNat, by omega⟩
    have hkl : k < r.shares.length := by omega
    have hkx : k < r.sheets.length := by rw [hg.xn]; exact hkl
    have hsn := hg.sn
    have hll := hg.ll
    have hsk := hg.s k hkl
    have hks : (k : Int).toNat = k := rfl
    have hO := part_oks hg k r.sheets[k] (List.getElem_mem hkx)
    have eL : explL r k = if r.sheets[k].back = true then toldL (partA r k) r.sheets[k].lines r.shares[k].fr else [] := by
      unfold explL
      rw [if_neg (by rw [hE]; simp), hks, List.getElem?_eq_getElem hkl, List.getElem?_eq_getElem hkx]
    have eE : explE r k = if r.sheets[k].back = true then if 1073741824 ≤ cAt (partA r k) r.sheets[k].lines 0 0 false then 6 else 0 else 6 := by
      unfold explE
      rw [if_neg (by rw [hE]; simp), hks, List.getElem?_eq_getElem hkl, List.getElem?_eq_getElem hkx]
    rw [eL, eE]
    obtain ⟨fr, hfr⟩ : ∃ fr, fr = r.shares[k].fr := ⟨_, rfl⟩
    obtain ⟨B, hBs⟩ : ∃ B, B = r.sheets[k].lines := ⟨_, rfl⟩
    obtain ⟨A, hA⟩ : ∃ A, A = partA r k := ⟨_, rfl⟩
    have hA2 : A = ((linesL r.text).take (r.shares[k].to + 1).toNat).drop r.shares[k].fr.toNat := by
      rw [hA]; unfold partA
      rw [List.getElem?_eq_getElem hkl]
      simp only
      rw [List.drop_take]
      congr 1
      omega
    rw [← hA, ← hBs] at hO ⊢
    rw [← hfr]
    have hOa := hO.na
    have hC := costs_ok A B (by have := hO.na; omega) (by have := hO.nb; omega) (fun x hx => by have := lineB_len (hO.la x hx); omega) (fun x hx => by have := lineB_len (hO.lb x hx); omega)
    cases hbk : r.sheets[k].back with
    | false =>
      simp only [Bool.false_eq_true, if_false]
      refine pure_intro (ow := fun _ => false) Tryz.func17 Tryz.ntmps17 rfl (by kernel_rfl) (by simp) rfl (by decide) fun G hG hOw hNm hB => ?_; simp only [go_sem, hG, hOw]
      refine call_pureA (CheckR_ok r hr) ?_
      simp (maxSteps := 2000000) only [go_sem, hG, hOw, he]
      (repeat' with_reducible first | refine And.intro ?_ ?_ | intro _ | refine exP ?_ ?_); all_goals try omega
      refine call_pureA (within05_ok k 0 (r.shares.length - 1)) ?_
      simp (maxSteps := 2000000) only [go_sem, hG, hOw, hin, hbk]
      (repeat' with_reducible first | refine And.intro ?_ ?_ | intro _ | refine exP ?_ ?_); all_goals try omega
      all_goals exact Subs.tup (.cons (.nil _ _) (.cons (.refl _) .nil))
    | true =>
      simp only [if_true]
      have hc0 : costAt A B 0 0 0 = cAt A B 0 0 false := costAt_cAt A B 0 0 false (fun h => by cases h)
      obtain ⟨Tb, hTb⟩ : ∃ Tb, Tb = (List.range (A.length + 1)).map (csRow A B) := ⟨_, rfl⟩
      rw [← hTb] at hC
      have hTl : Tb.length = A.length + 1 := by rw [hTb]; simp
      have hTg : ∀ j h, Tb[j]'h = csRow A B j := fun j h => by subst hTb; simp
      have hRl := csRow_len A B
      have hRg := csRow_get A B
      have e10 : Int.toNat 0 = 0 := rfl
      have hA3 : List.drop fr.toNat (List.take (r.shares[k].to + 1).toNat (linesL r.text)) = A := by rw [hA2, hfr]
      obtain ⟨F, hF⟩ : ∃ F, F = toldL A B fr := ⟨_, rfl⟩
      rw [← hF]
      refine pure_intro (ow := fun _ => false) Tryz.func17 Tryz.ntmps17 rfl (by kernel_rfl) (by simp) rfl (by decide) fun G hG hOw hNm hB => ?_; simp only [go_sem, hG, hOw]
      refine call_pureA (CheckR_ok r hr) ?_
      simp (maxSteps := 2000000) only [go_sem, hG, hOw, he]
      (repeat' with_reducible first | refine And.intro ?_ ?_ | intro _ | refine exP ?_ ?_); all_goals try omega
      refine call_pureA (within05_ok k 0 (r.shares.length - 1)) ?_
      simp (maxSteps := 2000000) only [go_sem, hG, hOw, hin, hbk]
      (repeat' with_reducible first | refine And.intro ?_ ?_ | intro _ | refine exP ?_ ?_); all_goals try omega
      refine semC_draw0 mixed (by kernel_rfl) ?_
      simp (maxSteps := 2000000) only [go_sem, hG, hOw, ← hfr, ← hBs]
      (repeat' with_reducible first | refine And.intro ?_ ?_ | intro _ | refine exP ?_ ?_); all_goals try omega
      refine ⟨_, callGivesA (Lines_ok r.text hr.t), ?_⟩
      simp (maxSteps := 2000000) only [go_sem, hG, hOw, hA3, ← hfr, ← hBs]
      (repeat' with_reducible first | refine And.intro ?_ ?_ | intro _ | refine exP ?_ ?_); all_goals try omega
      refine call_pure hC (by first | exact Subs.refl _ | (repeat' (first | exact Subs.nil | exact Sub.refl _ | exact Sub.lo (Nat.zero_le _) | refine Subs.cons ?_ ?_ | refine Subs.agg ?_ | refine Subs.fp ?_ | refine Subs.tup ?_ | refine Sub.map (Nat.zero_le _) (fun _ => ?_)))) (by first | rfl | simp [allP, all0, pureV, pure0, *]) (by simp [chk, hG]) ?_
      by_cases hge : 1073741824 ≤ cAt A B 0 0 false
      · have eF : F = [] := by rw [hF]; unfold toldL; rw [if_pos hge]
        have hgT : ((1073741824 : Int) ≤ costAt A B 0 0 0) = True := eq_true (by rw [hc0]; exact hge)
        rw [if_pos hge, eF]
        simp (maxSteps := 2000000) only [go_sem, hG, hOw, hTl, hTg, hRl, hRg, e10, hgT, List.drop_succ_cons, List.drop_zero, Option.getD_some, Nat.mul_one, Nat.add_zero]
        (repeat' with_reducible first | refine And.intro ?_ ?_ | intro _ | refine exP ?_ ?_); all_goals try omega
        all_goals exact Subs.tup (.cons (.nil _ _) (.cons (.refl _) .nil))
      · have hgF : ((1073741824 : Int) ≤ costAt A B 0 0 0) = False := eq_false (by rw [hc0]; exact hge)
        rw [if_neg hge]
        have e : F = tld A B fr (A.length + B.length) 0 0 false := by rw [hF]; unfold toldL; rw [if_neg hge]
        have tl : ∀ n i k w, (tld A B fr n i k w).length ≤ n := by
          intro n
          induction n with
          | zero => intro i k w; exact Nat.le_refl _
          | succ n ih =>
            intro i k w
            unfold tld
            split
            · simp
            · rw [List.length_append]
              have h1 := ih (stN A B i k w (stJ A B i k w)).1 (stN A B i k w (stJ A B i k w)).2.1 (stN A B i k w (stJ A B i k w)).2.2
              have h2 : (stF A B fr i k (stJ A B i k w)).length ≤ 1 := by
                unfold stF
                split
                · simp
                · split <;> simp
                · simp
              omega
        have hOa := hO.na
        have hOb := hO.nb
        have hRl2 : F.length ≤ 2000 := by have := tl (A.length + B.length) 0 0 false; rw [← e] at this; omega
        simp (maxSteps := 2000000) only [go_sem, hG, hOw, hTl, hTg, hRl, hRg, e10, hgF, List.drop_succ_cons, List.drop_zero, Option.getD_some, Nat.mul_one, Nat.add_zero]
        (repeat' with_reducible first | refine And.intro ?_ ?_ | intro _ | refine exP ?_ ?_); all_goals try omega
        refine semC_loop (fun x : Nat × Nat × Bool × List Ft => rxS G.lo r fr A B Tb x.1 x.2.1 x.2.2.1 x.2.2.2 [])
          (fun x => x.1 ≤ A.length ∧ x.2.1 ≤ B.length ∧ (x.2.2.1 = true → 0 < x.1) ∧ cAt A B x.1 x.2.1 x.2.2.1 < 1073741824 ∧ ∃ n, (A.length - x.1) + (B.length - x.2.1) ≤ n ∧ x.2.2.2 ++ tld A B fr n x.1 x.2.1 x.2.2.1 = F)
          (fun x => (A.length - x.1) + (B.length - x.2.1)) (0, 0, false, []) ⟨Nat.zero_le _, Nat.zero_le _, (fun h => by cases h), by simp only; omega, A.length + B.length, by simp, by simp [e]⟩ (entA [(2, some 2), (30, none)] (by (simp only [go_sem]) <;> simp [wI,hA3]) (by (simp only [go_sem, entH, entH1, nilArr, obOK]) <;> simp [wI,hA3])) ?_
        rintro ⟨i, k, w, L⟩ ⟨hi, hk, hw, hlt, n, hn, hL⟩
        simp only at hi hk hw hlt hn hL
        have hLl : L.length ≤ 4000 := by rw [← hL, List.length_append] at hRl2; omega
        by_cases hend : i = A.length ∧ k = B.length
        · obtain ⟨rfl, rfl⟩ := hend
          have e : tld A B fr n A.length B.length w = [] := by
            cases n with
            | zero => rfl
            | succ n => unfold tld; rw [if_pos ⟨rfl, rfl⟩]
          rw [e, List.append_nil] at hL
          subst hL
          refine vc_sound _ _ _ ?_; simp only [go_sem, hG, hOw]
          (repeat' with_reducible first | refine And.intro ?_ ?_ | intro _ | refine exP ?_ ?_); all_goals try omega
          all_goals exact .refl _
        · obtain ⟨n, rfl⟩ : ∃ n', n = n' + 1 := ⟨n - 1, by omega⟩
          obtain ⟨s1, s2⟩ := stJ_ok A B i k w hi hk hw hend hlt
          simp only [onB, Bool.and_eq_true, decide_eq_true_eq] at s1
          obtain ⟨q1, q2, q3, q4⟩ := stN_ok A B i k w hi hk hw _ s1.1
          have hc0 : 0 ≤ stC A B i k (stJ A B i k w) := by
            have := hO.few i k
            unfold stC
            split <;> omega
          refine SemL.semC ?_
          simp only [flat, List.cons_append, List.nil_append, List.append_assoc, List.take_succ_cons, List.take_zero, List.take_nil, List.drop_succ_cons, List.drop_zero]
          refine vcN_sound 2 _ _ ?_
          have fin : ∀ st', Ent G st' (rxS G.lo r fr A B Tb (stN A B i k w (stJ A B i k w)).1 (stN A B i k w (stJ A B i k w)).2.1 (stN A B i k w (stJ A B i k w)).2.2 (L ++ stF A B fr i k (stJ A B i k w)) []) →
              ∃ y : Nat × Nat × Bool × List Ft, (y.1 ≤ A.length ∧ y.2.1 ≤ B.length ∧ (y.2.2.1 = true → 0 < y.1) ∧ cAt A B y.1 y.2.1 y.2.2.1 < 1073741824 ∧ ∃ n, (A.length - y.1) + (B.length - y.2.1) ≤ n ∧ y.2.2.2 ++ tld A B fr n y.1 y.2.1 y.2.2.1 = F) ∧
                (A.length - y.1) + (B.length - y.2.1) < (A.length - i) + (B.length - k) ∧ Ent G st' (rxS G.lo r fr A B Tb y.1 y.2.1 y.2.2.1 y.2.2.2 []) := fun st' hs' =>
            ⟨((stN A B i k w (stJ A B i k w)).1, (stN A B i k w (stJ A B i k w)).2.1, (stN A B i k w (stJ A B i k w)).2.2, L ++ stF A B fr i k (stJ A B i k w)),
              ⟨q1, q2, q3, by have := s1.2; unfold cOf at this; simp only; omega, n, by simp only; omega, by
                have e : tld A B fr (n + 1) i k w = stF A B fr i k (stJ A B i k w) ++ tld A B fr n (stN A B i k w (stJ A B i k w)).1 (stN A B i k w (stJ A B i k w)).2.1 (stN A B i k w (stJ A B i k w)).2.2 := by
                  conv => lhs; unfold tld
                  rw [if_neg hend]
                rw [e] at hL
                simp only
                rw [List.append_assoc]; exact hL⟩, q4, hs'⟩
          have step : ∀ (Q : Exit → St → Prop), (∀ st', Ent G st' (rxS G.lo r fr A B Tb (stN A B i k w (stJ A B i k w)).1 (stN A B i k w (stJ A B i k w)).2.1 (stN A B i k w (stJ A B i k w)).2.2 (L ++ stF A B fr i k (stJ A B i k w)) []) → Q .normal st') → SemL Tryz.prog G (flat (bkOf 1 Tryz.f17.body)) (rxS G.lo r fr A B Tb i k w L []) Q := fun Q hQ =>
            rx_step r fr A B hO (by omega) Tb hTb i k w L hi hk hw (by omega) hend hlt hG hOw hNm hQ
          by_cases g1 : i < A.length
          · have hiT : ((i : Int) < (A.length : Int)) = True := eq_true (by omega)
            simp (maxSteps := 2000000) only [go_sem, hG, hOw, hiT, decide_true]
            (repeat' with_reducible first | refine And.intro ?_ ?_ | intro _ | refine exP ?_ ?_); all_goals try omega
            refine semL_blk ?_
            refine semL_ent (s' := rxS G.lo r fr A B Tb i k w L []) (entA [(2, some 2), (30, some 30)]) ?_
            refine semL_code (by kernel_rfl) (step _ fun st' he => ?_)
            refine vcN_sound 1 _ _ ?_
            simp only [go_sem, hG, hOw]
            exact fin st' he
          · have hiF : ((i : Int) < (A.length : Int)) = False := eq_false (by omega)
            have hkT : ((k : Int) < (B.length : Int)) = True := eq_true (by omega)
            simp (maxSteps := 2000000) only [go_sem, hG, hOw, hiF, hkT, decide_true, decide_false]
            (repeat' with_reducible first | refine And.intro ?_ ?_ | intro _ | refine exP ?_ ?_); all_goals try omega
            refine semL_blk ?_
            refine semL_ent (s' := rxS G.lo r fr A B Tb i k w L []) (entA [(2, some 2), (30, some 30)]) ?_
            refine semL_code (by kernel_rfl) (step _ fun st' he => ?_)
            refine vcN_sound 1 _ _ ?_
            simp only [go_sem, hG, hOw]
            exact fin st' he
  · have eL : explL r n = [] := by unfold explL; rw [if_pos hE]
    have eE : explE r n = backE r n := by unfold explE; rw [if_pos hE]
    rw [eL, eE]
    refine pure_intro (ow := fun _ => false) Tryz.func17 Tryz.ntmps17 rfl (by kernel_rfl) (by simp) rfl (by decide) fun G hG hOw hNm hB => ?_; simp only [go_sem, hG, hOw]
    refine call_pureA (CheckR_ok r hr) ?_
    simp only [go_sem, hG, hOw]
    (repeat' with_reducible first | refine And.intro ?_ ?_ | intro _ | refine exP ?_ ?_); all_goals try omega
    · rename_i h
      rw [show backE r n = roundE r by simp [backE, h]]
      exact Subs.tup (.cons (.nil _ _) (.cons (.refl _) .nil))
    · rename_i h
      have h2 : inB n 0 (r.shares.length - 1) = false := by
        cases h2 : inB n 0 (r.shares.length - 1) with
        | false => rfl
        | true => simp [backE, h, h2] at hE
      refine call_pureA (within05_ok n 0 (r.shares.length - 1)) ?_
      simp (maxSteps := 2000000) only [go_sem, hG, hOw, h2]
      (repeat' with_reducible first | refine And.intro ?_ ?_ | intro _ | refine exP ?_ ?_); all_goals try omega
      rw [show backE r n = 2 by simp [backE, h, h2]]
      exact Subs.tup (.cons (.nil _ _) (.cons (.refl _) .nil))
end Go.Proofs.YtfnohnjnncjidaaGreatDoor
