import Derived.Test.YtphadkcpgnkpfaaGreatDoorQT42
import Derived.Test.YtphadkcpgnkpfaaGreatDoorQT43
namespace Go.Proofs.YtphadkcpgnkpfaaGreatDoor
open Go Pm
set_option linter.unusedSimpArgs false
set_option linter.unusedVariables false
set_option maxHeartbeats 4000000
set_option maxRecDepth 100000
def foD (rs : List Rd) (k n w : Int) (o : ByteArray) (i : Nat) : List ByteArray × ByteArray := (rs.take i).foldl (stepD k n w) ([], o)
theorem foD_zero (rs : List Rd) (k n w : Int) (o : ByteArray) : foD rs k n w o 0 = ([], o) := rfl
theorem foD_succ (rs : List Rd) (k n w : Int) (o : ByteArray) (i : Nat) (hi : i < rs.length) : foD rs k n w o (i + 1) = stepD k n w (foD rs k n w o i) rs[i] := by
  unfold foD
  rw [List.take_add_one, List.getElem?_eq_getElem hi, List.foldl_append]
  rfl
theorem foD_len (rs : List Rd) (k n w : Int) (o : ByteArray) : ∀ i, (foD rs k n w o i).1.length ≤ i
  | 0 => by simp [foD]
  | i + 1 => by
    by_cases hi : i < rs.length
    · rw [foD_succ rs k n w o i hi]
      have := foD_len rs k n w o i
      unfold stepD
      split
      · split
        · simp; omega
        · simp only; omega
      · omega
    · have e : foD rs k n w o (i + 1) = foD rs k n w o i := by
        unfold foD; rw [List.take_of_length_le (by omega), List.take_of_length_le (by omega)]
      rw [e]
      have := foD_len rs k n w o i
      omega
def dF (rs : List Rd) (k n : Int) (l : List ByteArray) (w : Nat) : List ByteArray := (List.range w).flatMap (outW rs k n l)
theorem dF_zero (rs : List Rd) (k n : Int) (l : List ByteArray) : dF rs k n l 0 = [] := rfl
theorem dF_succ (rs : List Rd) (k n : Int) (l : List ByteArray) (w : Nat) : dF rs k n l (w + 1) = dF rs k n l w ++ outW rs k n l w := by
  unfold dF; rw [List.range_succ, List.flatMap_append]; simp
theorem outW_len (rs : List Rd) (k n : Int) (l : List ByteArray) (w : Nat) : (outW rs k n l w).length ≤ rs.length + 1 := by
  have := foD_len rs k n w (ownB l w) rs.length
  unfold foD at this
  rw [List.take_length] at this
  unfold outW endD
  split
  · omega
  · simp; omega
theorem dF_len (rs : List Rd) (k n : Int) (l : List ByteArray) (hn : rs.length ≤ 1000) : ∀ w, (dF rs k n l w).length ≤ w * 1001
  | 0 => by simp [dF]
  | w + 1 => by
    rw [dF_succ, List.length_append]
    have h1 := dF_len rs k n l hn w
    have h2 := outW_len rs k n l w
    omega
attribute [go_sem] dF_zero foD_zero
theorem Rread_way (c : Cp) (hn : c.rds.length ≤ 1000) (k j w : Nat) (l U : List ByteArray) (hU : U.length ≤ 1100000) (o : ByteArray) {G : Gh} {Q : Exit → St → Prop} (hG : G.n = 86) (hOw : G.ow = fun _ => false) (hNm : G.nm = []) :
    SemC Tryz.prog G (bkOf 2 Tryz.f93.body) (St.of [(2, i64 k), (3, i64 j), (5, .ptr 5 0), (10, strs 0 l), (11, i64 w), (12, str o), (9, .own 9 0 U.length 1), (13, i64 0)] [(5, .box (cpC 0 c)), (9, .arr 9 1 (U.map strE))])
      (cutQ G 2 (fun _ : Unit => St.of [(2, i64 k), (3, i64 j), (5, .ptr 5 0), (10, strs 0 l), (11, i64 w), (12, str (foD c.rds k j w o c.rds.length).2), (9, .own 9 0 (U ++ (foD c.rds k j w o c.rds.length).1).length 1)] [(5, .box (cpC 0 c)), (9, .arr 9 1 ((U ++ (foD c.rds k j w o c.rds.length).1).map strE))]) (fun _ => True) Q) := by
  unfold Tryz.f93
  simp only [rgOf, bkOf, rgO, bkO, orElse, Option.bind_some, Option.getD_some, reduceIte, Nat.reduceEqDiff, reduceCtorEq]
  have e0 : U ++ ([] : List ByteArray) = U := List.append_nil U
  refine semC_loop (fun i : Nat => St.of [(2, i64 k), (3, i64 j), (5, .ptr 5 0), (10, strs 0 l), (11, i64 w), (12, str (foD c.rds k j w o i).2), (9, .own 9 0 (U ++ (foD c.rds k j w o i).1).length 1), (13, i64 i)] [(5, .box (cpC 0 c)), (9, .arr 9 1 ((U ++ (foD c.rds k j w o i).1).map strE))]) (fun i => i ≤ c.rds.length) (fun i => c.rds.length - i) 0 (by simp) (ent_of [(5, some 5), (9, some 9)] (by (simp only [e0, go_sem]) <;> simp [e0]) (by (simp only [e0, go_sem, entH, entH1, nilArr, obOK]) <;> simp [e0]) (by simp [injR, apart]) (by simp [coverR, usH]) (by simp [hNm, lkR, names])) ?_
  rintro i hi
  have hfl := foD_len c.rds k j w o i
  have hUl : (U ++ (foD c.rds k j w o i).1).length ≤ 1102000 := by rw [List.length_append]; omega
  by_cases hil : i < c.rds.length
  · have hlt : decide ((i : Int) < c.rds.length) = true := decide_eq_true (by omega)
    have hsu := foD_succ c.rds k j w o i hil
    obtain ⟨V0, hV⟩ : ∃ V0, V0 = U ++ (foD c.rds k j w o i).1 := ⟨_, rfl⟩
    rw [← hV] at hUl ⊢
    cases hat : atW k j w c.rds[i] with
    | false =>
      have hq : foD c.rds k j w o (i + 1) = foD c.rds k j w o i := by rw [hsu]; simp [stepD, hat]
      have hq : U ++ (foD c.rds k j w o (i + 1)).1 = V0 ∧ (foD c.rds k j w o (i + 1)).2 = (foD c.rds k j w o i).2 := by rw [hq, hV]; exact ⟨rfl, rfl⟩
      obtain ⟨hq1, hq2⟩ := hq
      have hq3 : V0.length = U.length + (foD c.rds k j w o (i + 1)).1.length := by rw [← hq1, List.length_append]
      simp only [atW, Bool.and_eq_false_iff, decide_eq_false_iff_not] at hat
      by_cases h1 : c.rds[i].ch = k
      · by_cases h2 : c.rds[i].ln = j
        · have h3 : ¬ c.rds[i].wd = w := fun h => by rcases hat with (h' | h') | h' <;> exact h' (by assumption)
          refine vc_sound _ _ _ ?_; simp (maxSteps := 2000000) only [go_sem, hG, hOw, hlt, decide_eq_true h1, decide_eq_true h2, decide_eq_false h3]
          (repeat' with_reducible first | refine And.intro ?_ ?_ | intro _ | refine exP ?_ ?_); all_goals try omega
          refine ⟨i + 1, by omega, by omega, ?_⟩
          exact ent_of [(5, some 5), (9, some 9)] (by (simp only [hq1,hq2,hq3, go_sem]) <;> simp [hq1, hq2, hq3]) (by (simp only [hq1,hq2,hq3, go_sem, entH, entH1, nilArr, obOK]) <;> simp [hq1, hq2, hq3]) (by simp [injR, apart]) (by simp [coverR, usH]) (by simp [hNm, lkR, names])
        · refine vc_sound _ _ _ ?_; simp (maxSteps := 2000000) only [go_sem, hG, hOw, hlt, decide_eq_true h1, decide_eq_false h2]
          (repeat' with_reducible first | refine And.intro ?_ ?_ | intro _ | refine exP ?_ ?_); all_goals try omega
          refine ⟨i + 1, by omega, by omega, ?_⟩
          exact ent_of [(5, some 5), (9, some 9)] (by (simp only [hq1,hq2,hq3, go_sem]) <;> simp [hq1, hq2, hq3]) (by (simp only [hq1,hq2,hq3, go_sem, entH, entH1, nilArr, obOK]) <;> simp [hq1, hq2, hq3]) (by simp [injR, apart]) (by simp [coverR, usH]) (by simp [hNm, lkR, names])
      · refine vc_sound _ _ _ ?_; simp (maxSteps := 2000000) only [go_sem, hG, hOw, hlt, decide_eq_false h1]
        (repeat' with_reducible first | refine And.intro ?_ ?_ | intro _ | refine exP ?_ ?_); all_goals try omega
        refine ⟨i + 1, by omega, by omega, ?_⟩
        exact ent_of [(5, some 5), (9, some 9)] (by (simp only [hq1,hq2,hq3, go_sem]) <;> simp [hq1, hq2, hq3]) (by (simp only [hq1,hq2,hq3, go_sem, entH, entH1, nilArr, obOK]) <;> simp [hq1, hq2, hq3]) (by simp [injR, apart]) (by simp [coverR, usH]) (by simp [hNm, lkR, names])
    | true =>
      have hat' := hat
      simp only [atW, Bool.and_eq_true, decide_eq_true_eq] at hat'
      obtain ⟨⟨h1, h2⟩, h3⟩ := hat'
      by_cases h4 : (c.rds[i].kind.toNat : Int) = 2
      · have hq : U ++ (foD c.rds k j w o (i + 1)).1 = V0 ++ [c.rds[i].word] ∧ (foD c.rds k j w o (i + 1)).2 = (foD c.rds k j w o i).2 := by
          rw [hsu, hV]
          unfold stepD
          rw [if_pos hat, if_pos h4]
          exact ⟨by simp, rfl⟩
        obtain ⟨hq1, hq2⟩ := hq
        have hq3 : V0.length + 1 = U.length + (foD c.rds k j w o (i + 1)).1.length := by
          have := congrArg List.length hq1
          simp only [List.length_append, List.length_cons, List.length_nil] at this
          omega
        refine vc_sound _ _ _ ?_; simp (maxSteps := 2000000) only [go_sem, hG, hOw, hlt, decide_eq_true h1, decide_eq_true h2, decide_eq_true h3, decide_eq_true h4]
        (repeat' with_reducible first | refine And.intro ?_ ?_ | intro _ | refine exP ?_ ?_); all_goals try omega
        refine ⟨i + 1, by omega, by omega, ?_⟩
        exact ent_of [(5, some 5), (9, some 76)] (by (simp only [hq1,hq2,hq3,strE, go_sem]) <;> simp [hq1, hq2, hq3, strE]) (by (simp only [hq1,hq2,hq3,strE, go_sem, entH, entH1, nilArr, obOK]) <;> simp [hq1, hq2, hq3, strE]) (by simp [injR, apart]) (by simp [coverR, usH]) (by simp [hNm, lkR, names])
      · have hq : U ++ (foD c.rds k j w o (i + 1)).1 = V0 ∧ (foD c.rds k j w o (i + 1)).2 = c.rds[i].word := by
          rw [hsu, hV]
          unfold stepD
          rw [if_pos hat, if_neg h4]
          exact ⟨rfl, rfl⟩
        obtain ⟨hq1, hq2⟩ := hq
        have hq3 : V0.length = U.length + (foD c.rds k j w o (i + 1)).1.length := by rw [← hq1, List.length_append]
        refine vc_sound _ _ _ ?_; simp (maxSteps := 2000000) only [go_sem, hG, hOw, hlt, decide_eq_true h1, decide_eq_true h2, decide_eq_true h3, decide_eq_false h4]
        (repeat' with_reducible first | refine And.intro ?_ ?_ | intro _ | refine exP ?_ ?_); all_goals try omega
        refine ⟨i + 1, by omega, by omega, ?_⟩
        exact ent_of [(5, some 5), (9, some 9)] (by (simp only [hq1,hq2,hq3, go_sem]) <;> simp [hq1, hq2, hq3]) (by (simp only [hq1,hq2,hq3, go_sem, entH, entH1, nilArr, obOK]) <;> simp [hq1, hq2, hq3]) (by simp [injR, apart]) (by simp [coverR, usH]) (by simp [hNm, lkR, names])
  · have hi2 : i = c.rds.length := by omega
    subst hi2
    refine vc_sound _ _ _ ?_; simp only [go_sem, hG, hOw]
    (repeat' with_reducible first | refine And.intro ?_ ?_ | intro _ | refine exP ?_ ?_); all_goals try omega
    exact ⟨(), entA [(5, some 5), (9, some 9)]⟩
theorem Rread_ok (t : List Ch) (c : Cp) (hn : c.rds.length ≤ 1000) (k j : Nat) (hk : k < t.length) (hj : j < t[k].lines.length) (hl : t[k].lines[j].length ≤ 1000) : Gives Tryz.prog 93 [txE 0 t, cpE 0 c, i64 k, i64 j] (fun n => strs n (readD c.rds k j t[k].lines[j])) := by
  refine pure_intro (ow := fun _ => false) Tryz.func93 Tryz.ntmps93 rfl (by kernel_rfl) (by simp) rfl (by decide) fun G hG hOw hNm hB => ?_; simp only [go_sem, hG, hOw]
  obtain ⟨l, hl'⟩ : ∃ l, l = t[k].lines[j] := ⟨_, rfl⟩
  rw [← hl'] at hl ⊢
  have hR : readD c.rds k j l = dF c.rds k j l (l.length + 1) := rfl
  rw [hR]
  (repeat' with_reducible first | refine And.intro ?_ ?_ | intro _ | refine exP ?_ ?_); all_goals try omega
  refine semC_loop (fun w : Nat => St.of [(2, i64 k), (3, i64 j), (5, .ptr 5 0), (10, strs 0 l), (9, .own 9 0 (dF c.rds k j l w).length 1), (11, i64 w)] [(5, .box (cpC 0 c)), (9, .arr 9 1 ((dF c.rds k j l w).map strE))]) (fun w => w ≤ l.length + 1) (fun w => l.length + 1 - w) 0 (by simp) (ent_of [(5, some 5), (9, none)] (by (simp only [hl', go_sem]) <;> simp [hl']) (by (simp only [hl', go_sem, entH, entH1, nilArr, obOK]) <;> simp [hl']) (by simp [injR, apart]) (by simp [coverR, usH]) (by simp [hNm, lkR, names])) ?_
  rintro w hw
  have hdl := dF_len c.rds k j l hn w
  have hdl2 : w * 1001 ≤ 1001 * 1001 := Nat.mul_le_mul (by omega) (Nat.le_refl _)
  by_cases hwl : w ≤ l.length
  · have hle : (w : Int) ≤ l.length := by omega
    have hfl := foD_len c.rds k j w (ownB l w) c.rds.length
    have hUl : (dF c.rds k j l w ++ (foD c.rds k j w (ownB l w) c.rds.length).1).length ≤ 1102000 := by rw [List.length_append]; omega
    by_cases hw3 : w < l.length
    · have hlt : (w : Int) < l.length := by omega
      have ho : ownB l w = l[w] := by unfold ownB; simp [hw3]
      refine vc_sound _ _ _ ?_; simp (maxSteps := 2000000) only [go_sem, hG, hOw, decide_eq_true hle, decide_eq_true hlt]
      (repeat' with_reducible first | refine And.intro ?_ ?_ | intro _ | refine exP ?_ ?_); all_goals try omega
      refine semC_cut (fun _ : Unit => St.of [(2, i64 k), (3, i64 j), (5, .ptr 5 0), (10, strs 0 l), (11, i64 w), (12, str (foD c.rds k j w (ownB l w) c.rds.length).2), (9, .own 9 0 ((dF c.rds k j l w) ++ (foD c.rds k j w (ownB l w) c.rds.length).1).length 1)] [(5, .box (cpC 0 c)), (9, .arr 9 1 (((dF c.rds k j l w) ++ (foD c.rds k j w (ownB l w) c.rds.length).1).map strE))]) (fun _ => True) ?_ ?_
      · refine semC_ent (s' := St.of [(2, i64 k), (3, i64 j), (5, .ptr 5 0), (10, strs 0 l), (11, i64 w), (12, str (ownB l w)), (9, .own 9 0 (dF c.rds k j l w).length 1), (13, i64 0)] [(5, .box (cpC 0 c)), (9, .arr 9 1 ((dF c.rds k j l w).map strE))]) (ent_of [(5, some 5), (9, some 9)] (by (simp only [ho, go_sem]) <;> simp [ho]) (by (simp only [ho, go_sem, entH, entH1, nilArr, obOK]) <;> simp [ho]) (by simp [injR, apart]) (by simp [coverR, usH]) (by simp [hNm, lkR, names])) ?_
        exact semC_code (by kernel_rfl) (Rread_way c hn k j w l (dF c.rds k j l w) (by omega) (ownB l w) hG hOw hNm)
      rintro _ _
      by_cases hz : (foD c.rds k j w (ownB l w) c.rds.length).2 = ⟨#[]⟩
      · have hq : dF c.rds k j l (w + 1) = dF c.rds k j l w ++ (foD c.rds k j w (ownB l w) c.rds.length).1 := by
          rw [dF_succ]; unfold outW endD; unfold foD at hz ⊢; rw [List.take_length] at hz ⊢; rw [if_pos hz]
        simp (maxSteps := 2000000) only [go_sem, hG, hOw, hz]
        (repeat' with_reducible first | refine And.intro ?_ ?_ | intro _ | refine exP ?_ ?_); all_goals try omega
        refine ⟨w + 1, by omega, by omega, ?_⟩
        exact ent_of [(5, some 5), (9, some 9)] (by (simp only [hq, go_sem]) <;> simp [hq]) (by (simp only [hq, go_sem, entH, entH1, nilArr, obOK]) <;> simp [hq]) (by simp [injR, apart]) (by simp [coverR, usH]) (by simp [hNm, lkR, names])
      · have hq : dF c.rds k j l (w + 1) = (dF c.rds k j l w ++ (foD c.rds k j w (ownB l w) c.rds.length).1) ++ [(foD c.rds k j w (ownB l w) c.rds.length).2] := by
          rw [dF_succ, List.append_assoc]; unfold outW endD; unfold foD at hz ⊢; rw [List.take_length] at hz ⊢; rw [if_neg hz]
        simp (maxSteps := 2000000) only [go_sem, hG, hOw, decide_eq_false hz]
        (repeat' with_reducible first | refine And.intro ?_ ?_ | intro _ | refine exP ?_ ?_); all_goals try omega
        refine ⟨w + 1, by omega, by omega, ?_⟩
        exact ent_of [(5, some 5), (9, some 84)] (by (simp only [hq,strE, go_sem]) <;> simp [hq, strE]) (by (simp only [hq,strE, go_sem, entH, entH1, nilArr, obOK]) <;> simp [hq, strE]) (by simp [injR, apart]) (by simp [coverR, usH]) (by simp [hNm, lkR, names])
    · have hlt : ¬ (w : Int) < l.length := by omega
      have ho : ownB l w = ⟨#[]⟩ := by
        have : w = l.length := by omega
        subst this
        unfold ownB; simp
      refine vc_sound _ _ _ ?_; simp (maxSteps := 2000000) only [go_sem, hG, hOw, decide_eq_true hle, decide_eq_false hlt]
      (repeat' with_reducible first | refine And.intro ?_ ?_ | intro _ | refine exP ?_ ?_); all_goals try omega
      refine semC_cut (fun _ : Unit => St.of [(2, i64 k), (3, i64 j), (5, .ptr 5 0), (10, strs 0 l), (11, i64 w), (12, str (foD c.rds k j w (ownB l w) c.rds.length).2), (9, .own 9 0 ((dF c.rds k j l w) ++ (foD c.rds k j w (ownB l w) c.rds.length).1).length 1)] [(5, .box (cpC 0 c)), (9, .arr 9 1 (((dF c.rds k j l w) ++ (foD c.rds k j w (ownB l w) c.rds.length).1).map strE))]) (fun _ => True) ?_ ?_
      · refine semC_ent (s' := St.of [(2, i64 k), (3, i64 j), (5, .ptr 5 0), (10, strs 0 l), (11, i64 w), (12, str (ownB l w)), (9, .own 9 0 (dF c.rds k j l w).length 1), (13, i64 0)] [(5, .box (cpC 0 c)), (9, .arr 9 1 ((dF c.rds k j l w).map strE))]) (ent_of [(5, some 5), (9, some 9)] (by (simp only [ho, go_sem]) <;> simp [ho]) (by (simp only [ho, go_sem, entH, entH1, nilArr, obOK]) <;> simp [ho]) (by simp [injR, apart]) (by simp [coverR, usH]) (by simp [hNm, lkR, names])) ?_
        exact semC_code (by kernel_rfl) (Rread_way c hn k j w l (dF c.rds k j l w) (by omega) (ownB l w) hG hOw hNm)
      rintro _ _
      by_cases hz : (foD c.rds k j w (ownB l w) c.rds.length).2 = ⟨#[]⟩
      · have hq : dF c.rds k j l (w + 1) = dF c.rds k j l w ++ (foD c.rds k j w (ownB l w) c.rds.length).1 := by
          rw [dF_succ]; unfold outW endD; unfold foD at hz ⊢; rw [List.take_length] at hz ⊢; rw [if_pos hz]
        simp (maxSteps := 2000000) only [go_sem, hG, hOw, hz]
        (repeat' with_reducible first | refine And.intro ?_ ?_ | intro _ | refine exP ?_ ?_); all_goals try omega
        refine ⟨w + 1, by omega, by omega, ?_⟩
        exact ent_of [(5, some 5), (9, some 9)] (by (simp only [hq, go_sem]) <;> simp [hq]) (by (simp only [hq, go_sem, entH, entH1, nilArr, obOK]) <;> simp [hq]) (by simp [injR, apart]) (by simp [coverR, usH]) (by simp [hNm, lkR, names])
      · have hq : dF c.rds k j l (w + 1) = (dF c.rds k j l w ++ (foD c.rds k j w (ownB l w) c.rds.length).1) ++ [(foD c.rds k j w (ownB l w) c.rds.length).2] := by
          rw [dF_succ, List.append_assoc]; unfold outW endD; unfold foD at hz ⊢; rw [List.take_length] at hz ⊢; rw [if_neg hz]
        simp (maxSteps := 2000000) only [go_sem, hG, hOw, decide_eq_false hz]
        (repeat' with_reducible first | refine And.intro ?_ ?_ | intro _ | refine exP ?_ ?_); all_goals try omega
        refine ⟨w + 1, by omega, by omega, ?_⟩
        exact ent_of [(5, some 5), (9, some 84)] (by (simp only [hq,strE, go_sem]) <;> simp [hq, strE]) (by (simp only [hq,strE, go_sem, entH, entH1, nilArr, obOK]) <;> simp [hq, strE]) (by simp [injR, apart]) (by simp [coverR, usH]) (by simp [hNm, lkR, names])
  · have hw2 : w = l.length + 1 := by omega
    subst hw2
    have hle : ¬ ((l.length + 1 : Nat) : Int) ≤ l.length := by omega
    refine vc_sound _ _ _ ?_; simp (maxSteps := 2000000) only [go_sem, hG, hOw, decide_eq_false hle]
open Go Pm
set_option maxHeartbeats 4000000
set_option maxRecDepth 100000
theorem Rc_pair (t : List Ch) (c : Cp) (hl : c.rds.length ≤ 20) (k : Nat) (hkl : k < c.rds.length) (hRt : readingB t c.rds[k] = true) {G : Gh} {Q : Exit → St → Prop} (hG : G.n = 97) (hOw : G.ow = fun _ => false) (hNm : G.nm = []) (hbad : rdsB t c.rds = false → ∀ s', s'.get 4 = bl false → Q .ret s')
    (hQ : ∀ s, okAt t c.rds k = true → Ent G s (St.of [(2, .ptr 2 0), (3, .ptr 3 0), (5, i64 k)] [(2, .box [chs 0 t]), (3, .box (cpC 0 c))]) → Q .normal s) :
    SemL Tryz.prog G ((flat (bkOf 1 Tryz.f69.body)).drop 3) (St.of [(2, .ptr 2 0), (3, .ptr 3 0), (5, i64 k), (6, .ptr 6 0)] [(2, .box [chs 0 t]), (3, .box (cpC 0 c)), (6, .box (rdE c.rds[k]))]) Q := by
  unfold Tryz.f69
  simp only [rgOf, bkOf, rgO, bkO, orElse, Option.bind_some, Option.getD_some, reduceIte, Nat.reduceEqDiff, reduceCtorEq]
  simp only [flat, List.cons_append, List.nil_append, List.append_assoc, List.take_succ_cons, List.take_zero, List.take_nil, List.drop_succ_cons, List.drop_zero]
  by_cases hk0 : k = 0
  · have hz : okAt t c.rds k = true := by rw [okAt_of t c.rds k hkl, hRt, decide_eq_true hk0]; rfl
    have hk0' : ¬ (0 : Int) < ((k : Nat) : Int) := by omega
    refine vcN_sound 3 _ _ ?_
    simp only [go_sem, hG, hOw]
    refine semC_draw0 mixed (by kernel_rfl) ?_
    simp (maxSteps := 2000000) only [go_sem, hG, hOw, decide_eq_false hk0']
    (repeat' with_reducible first | refine And.intro ?_ ?_ | intro _ | refine exP ?_ ?_); all_goals try omega
    exact hQ _ hz (entA [(2, some 2), (3, some 3)])
  · have hk0' : (0 : Int) < ((k : Nat) : Int) := by omega
    have hk1 : ((k : Int) - 1).toNat = k - 1 := by omega
    have hgood : pairR c.rds[k - 1] c.rds[k] = true → okAt t c.rds k = true := fun h => by
      rw [okAt_of t c.rds k hkl, hRt, show c.rds.getD (k - 1) rd0 = c.rds[k - 1] by simp [show k - 1 < c.rds.length by omega], h]
      simp
    have hpe : pairR c.rds[k - 1] c.rds[k] = false → pairR (c.rds.getD (k - 1) rd0) c.rds[k] = false := fun h => by
      rw [show c.rds.getD (k - 1) rd0 = c.rds[k - 1] by simp [show k - 1 < c.rds.length by omega]]; exact h
    refine vcN_sound 3 _ _ ?_
    simp only [go_sem, hG, hOw]
    refine semC_draw0 mixed (by kernel_rfl) ?_
    simp (maxSteps := 2000000) only [go_sem, hG, hOw, decide_eq_true hk0', hk1]
    (repeat' with_reducible first | refine And.intro ?_ ?_ | intro _ | refine exP ?_ ?_); all_goals try omega
    refine ⟨_, callGivesA (Before_ok c.rds[k] c.rds[k - 1]), ?_⟩
    cases hb : beforeB c.rds[k] c.rds[k - 1] with
    | true =>
      simp (maxSteps := 2000000) only [go_sem, hG, hOw, hk1]
      (repeat' with_reducible first | refine And.intro ?_ ?_ | intro _ | refine exP ?_ ?_); all_goals try omega
      exact hbad (okAt_bad2 hkl hk0 (hpe (by unfold pairR; rw [hb]; rfl))) _ (by simp [go_sem])
    | false =>
      have hpr : pairR c.rds[k - 1] c.rds[k] = !((decide (c.rds[k].ch = c.rds[k - 1].ch) && (decide (c.rds[k].ln = c.rds[k - 1].ln) && decide (c.rds[k].wd = c.rds[k - 1].wd))) && decide ((c.rds[k - 1].kind.toNat : Int) ≠ 2)) := by
        unfold pairR sameP
        rw [hb, Bool.and_assoc (decide (c.rds[k].ch = c.rds[k - 1].ch))]
        rfl
      simp (maxSteps := 2000000) only [go_sem, hG, hOw, hk1]
      (repeat' with_reducible first | refine And.intro ?_ ?_ | intro _ | refine exP ?_ ?_); all_goals try omega
      · rename_i e h2
        exact hbad (okAt_bad2 hkl hk0 (hpe (by rw [hpr, e, decide_eq_true h2]; rfl))) _ (by simp [go_sem])
      · rename_i e h2
        exact hQ _ (hgood (by rw [hpr, e, decide_eq_false (by omega : ¬ ((c.rds[k - 1].kind.toNat : Int) ≠ 2))]; rfl)) (entA [(2, some 2), (3, some 3)])
      · rename_i e
        exact hQ _ (hgood (by rw [hpr, e]; rfl)) (entA [(2, some 2), (3, some 3)])
theorem Rc_rds (t : List Ch) (ht : textB t = true) (htB : OKtB t) (c : Cp) (hl : c.rds.length ≤ 20) (hw : ∀ r ∈ c.rds, r.word.size ≤ 100000) {G : Gh} {Q : Exit → St → Prop} (hG : G.n = 97) (hOw : G.ow = fun _ => false) (hNm : G.nm = []) (hbad : rdsB t c.rds = false → ∀ s', s'.get 4 = bl false → Q .ret s') :
    SemC Tryz.prog G (bkOf 0 Tryz.f69.body) (St.of [(2, .ptr 2 0), (3, .ptr 3 0), (5, i64 0)] [(2, .box [chs 0 t]), (3, .box (cpC 0 c))])
      (cutQ G 0 (fun _ : Unit => St.of [(2, .ptr 2 0), (3, .ptr 3 0)] [(2, .box [chs 0 t]), (3, .box (cpC 0 c))]) (fun _ => rdsB t c.rds = true) Q) := by
  unfold Tryz.f69
  simp only [rgOf, bkOf, rgO, bkO, orElse, Option.bind_some, Option.getD_some, reduceIte, Nat.reduceEqDiff, reduceCtorEq]
  refine semC_loop (fun k : Nat => St.of [(2, .ptr 2 0), (3, .ptr 3 0), (5, i64 k)] [(2, .box [chs 0 t]), (3, .box (cpC 0 c))]) (fun k => k ≤ c.rds.length ∧ ∀ i, i < k → okAt t c.rds i = true) (fun k => c.rds.length - k) 0 (by simp) (entA [(2, some 2), (3, some 3)]) ?_
  rintro k ⟨hk, hall⟩
  by_cases hkl : k < c.rds.length
  · have hlt : (k : Int) < c.rds.length := by omega
    refine SemL.semC ?_
    simp only [flat, List.cons_append, List.nil_append, List.append_assoc, List.take_succ_cons, List.take_zero, List.take_nil, List.drop_succ_cons, List.drop_zero]
    refine vcN_sound 2 _ _ ?_
    simp (maxSteps := 2000000) only [go_sem, hG, hOw, hlt]
    (repeat' with_reducible first | refine And.intro ?_ ?_ | intro _ | refine exP ?_ ?_); all_goals try omega
    refine semL_blk ?_
    refine semL_midN 3 (fun _ : Unit => St.of [(2, .ptr 2 0), (3, .ptr 3 0), (5, i64 k), (6, .ptr 6 0)] [(2, .box [chs 0 t]), (3, .box (cpC 0 c)), (6, .box (rdE c.rds[k]))]) (fun _ => readingB t c.rds[k] = true) ?_ ?_
    · refine vcN_sound 4 _ _ ?_
      simp only [go_sem, hG, hOw]
      (repeat' with_reducible first | refine And.intro ?_ ?_ | intro _ | refine exP ?_ ?_); all_goals try omega
      refine call_pureA (reading_ok t ht htB c.rds[k] (hw _ (List.getElem_mem hkl))) ?_
      cases hR : readingB t c.rds[k] with
      | false =>
        simp only [go_sem, hG, hOw]
        (repeat' with_reducible first | refine And.intro ?_ ?_ | intro _ | refine exP ?_ ?_); all_goals try omega
        exact hbad (okAt_bad1 hkl hR) _ (by simp [go_sem])
      | true =>
        simp only [go_sem, hG, hOw]
        (repeat' with_reducible first | refine And.intro ?_ ?_ | intro _ | refine exP ?_ ?_); all_goals try omega
        exact ⟨(), entA [(2, some 2), (3, some 3), (6, some 6)]⟩
    rintro _ hRt
    refine semL_code (l' := (flat (bkOf 1 Tryz.f69.body)).drop 3) (by kernel_rfl) ?_
    refine Rc_pair t c hl k hkl hRt hG hOw hNm hbad ?_
    intro s hz hs
    have hz2 : ∀ i, i < k + 1 → okAt t c.rds i = true := fun i hi => by
      by_cases e : i = k
      · exact e ▸ hz
      · exact hall i (by omega)
    show SemL _ _ _ _ _
    refine semL_ent hs ?_
    refine vcN_sound 2 _ _ ?_
    simp only [go_sem, hG, hOw]
    (repeat' with_reducible first | refine And.intro ?_ ?_ | intro _ | refine exP ?_ ?_); all_goals try omega
    exact ⟨k + 1, ⟨by omega, hz2⟩, by omega, entA [(2, some 2), (3, some 3)]⟩
  · have hk2 : k = c.rds.length := by omega
    subst hk2
    refine vc_sound _ _ _ ?_; simp only [go_sem, hG, hOw]
    (repeat' with_reducible first | refine And.intro ?_ ?_ | intro _ | refine exP ?_ ?_); all_goals try omega
    exact ⟨(), rdsB_all hall, entA [(2, some 2), (3, some 3)]⟩
open Go Pm
set_option maxHeartbeats 4000000
set_option maxRecDepth 100000
def lnB (rs : List Rd) (k n : Nat) (l : List ByteArray) : Bool := inB ((readD rs k n l).length) 1 10
def chpB (c : Cp) (k : Nat) (x : Ch) : Bool := (List.range x.lines.length).all fun n => lnB c.rds k n (x.lines.getD n [])
theorem copyB_eq (t : List Ch) (c : Cp) : copyB t c = (inB c.id 0 9999 && decide (c.rds.length ≤ 20) && rdsB t c.rds && (List.range t.length).all fun k => chpB c k (t.getD k ⟨0, []⟩)) := rfl
theorem all_upto {n : Nat} {p : Nat → Bool} (h : ∀ i, i < n → p i = true) : (List.range n).all p = true := List.all_eq_true.2 fun i hi => h i (by simpa using hi)
theorem all_no {n i : Nat} {p : Nat → Bool} (hi : i < n) (h : p i = false) : (List.range n).all p = false := by
  cases hx : (List.range n).all p with
  | false => rfl
  | true => have := List.all_eq_true.1 hx i (by simpa using hi); rw [h] at this; cases this
theorem dl (rs : List Rd) (k n : Int) (l : List ByteArray) (hn : rs.length ≤ 1000) (hl : l.length ≤ 10) : (readD rs k n l).length ≤ 100000 := by
  have := dF_len rs k n l hn (l.length + 1)
  have h2 : (l.length + 1) * 1001 ≤ 11 * 1001 := Nat.mul_le_mul (by omega) (Nat.le_refl _)
  show (dF rs k n l (l.length + 1)).length ≤ _
  omega
theorem RCopy_ok (t : List Ch) (ht : textB t = true) (c : Cp) (hn : c.rds.length ≤ 1000) (hw : ∀ r ∈ c.rds, r.word.size ≤ 100000) : Gives Tryz.prog 69 [txE 0 t, cpE 0 c] (fun _ => bl (copyB t c)) := by
  have htB := okB_of ht
  obtain ⟨ht1, ht2⟩ := text_v ht
  have bad : rdsB t c.rds = false → copyB t c = false := fun h => by unfold copyB; rw [h]; simp
  have bad1 : inB c.id 0 9999 = false → copyB t c = false := fun h => by unfold copyB; rw [h]; simp
  have bad2 : ¬ c.rds.length ≤ 20 → copyB t c = false := fun h => by unfold copyB; rw [decide_eq_false h]; simp
  refine pure_intro (ow := fun _ => false) Tryz.func69 Tryz.ntmps69 rfl (by kernel_rfl) (by simp) rfl (by decide) fun G hG hOw hNm hB => ?_; simp only [go_sem, hG, hOw]
  refine call_pureA (within01_ok c.id 0 9999) ?_
  cases h1 : inB c.id 0 9999 with
  | false =>
    simp (maxSteps := 2000000) only [go_sem, hG, hOw, bad1 h1]
  | true =>
    by_cases h2 : c.rds.length ≤ 20
    · have h2' : decide (20 < (c.rds.length : Int)) = false := decide_eq_false (by omega)
      simp (maxSteps := 2000000) only [go_sem, hG, hOw, h2']
      (repeat' with_reducible first | refine And.intro ?_ ?_ | intro _ | refine exP ?_ ?_); all_goals try omega
      refine semC_cut (fun _ : Unit => St.of [(2, .ptr 2 0), (3, .ptr 3 0)] [(2, .box [chs 0 t]), (3, .box (cpC 0 c))]) (fun _ => rdsB t c.rds = true) ?_ ?_
      · refine semC_ent (s' := St.of [(2, .ptr 2 0), (3, .ptr 3 0), (5, i64 0)] [(2, .box [chs 0 t]), (3, .box (cpC 0 c))]) (entA [(2, some 2), (3, some 3)]) ?_
        exact semC_code (by kernel_rfl) (Rc_rds t ht htB c h2 hw hG hOw hNm fun h s' hs' => by
          refine ⟨trivial, ?_⟩
          simp only [resV, hs', vw, bad h]
          exact Sub.refl _)
      rintro _ h3
      have hce : copyB t c = (List.range t.length).all fun k => chpB c k (t.getD k ⟨0, []⟩) := by rw [copyB_eq, h1, h3, decide_eq_true h2]; rfl
      simp only [go_sem, hG, hOw]
      refine semC_cut (fun _ : Unit => St.of [] []) (fun _ => copyB t c = true) ?_ ?_
      · refine semC_loop (fun k : Nat => St.of [(2, .ptr 2 0), (3, .ptr 3 0), (7, i64 k)] [(2, .box [chs 0 t]), (3, .box (cpC 0 c))]) (fun k => k ≤ t.length ∧ ∀ i, i < k → chpB c i (t.getD i ⟨0, []⟩) = true) (fun k => t.length - k) 0 (by simp) (entA [(2, some 2), (3, some 3)]) ?_
        rintro k ⟨hk, hak⟩
        by_cases hkl : k < t.length
        · have hlt : (k : Int) < t.length := by omega
          have hv := ht2 _ (List.getElem_mem hkl)
          have hv1 := hv.len
          have hgk : t.getD k ⟨0, []⟩ = t[k] := by simp [hkl]
          refine vc_sound _ _ _ ?_; simp (maxSteps := 2000000) only [go_sem, hG, hOw, decide_eq_true hlt]
          refine semC_cutN (fun _ : Unit => St.of [(2, .ptr 2 0), (3, .ptr 3 0), (7, i64 k)] [(2, .box [chs 0 t]), (3, .box (cpC 0 c))]) (fun _ => chpB c k t[k] = true) ?_ ?_
          · refine semC_loop (fun j : Nat => St.of [(2, .ptr 2 0), (3, .ptr 3 0), (7, i64 k), (8, i64 j)] [(2, .box [chs 0 t]), (3, .box (cpC 0 c))]) (fun j => j ≤ t[k].lines.length ∧ ∀ i, i < j → lnB c.rds k i (t[k].lines.getD i []) = true) (fun j => t[k].lines.length - j) 0 (by simp) (entA [(2, some 2), (3, some 3)]) ?_
            rintro j ⟨hj, haj⟩
            by_cases hjl : j < t[k].lines.length
            · have hlt2 : (j : Int) < t[k].lines.length := by omega
              have hv2 := (hv.ln _ (List.getElem_mem hjl)).1
              have hgj : t[k].lines.getD j [] = t[k].lines[j] := by simp [hjl]
              have hdl := dl c.rds k j t[k].lines[j] hn hv2.2
              refine vc_sound _ _ _ ?_; simp (maxSteps := 2000000) only [go_sem, hG, hOw, decide_eq_true hlt2]
              (repeat' with_reducible first | refine And.intro ?_ ?_ | intro _ | refine exP ?_ ?_); all_goals try omega
              refine call_pureA (Rread_ok t c hn k j hkl hjl (by omega)) ?_
              simp only [go_sem, hG, hOw]
              refine call_pureA (within01_ok ((readD c.rds k j t[k].lines[j]).length) 1 10) ?_
              cases hx : inB ((readD c.rds k j t[k].lines[j]).length) 1 10 with
              | false =>
                have hcb : copyB t c = false := by
                  rw [hce]
                  exact all_no hkl (by rw [hgk]; exact all_no hjl (by unfold lnB; rw [hgj]; exact hx))
                simp (maxSteps := 2000000) only [go_sem, hG, hOw, hcb]
              | true =>
                simp only [go_sem, hG, hOw]
                (repeat' with_reducible first | refine And.intro ?_ ?_ | intro _ | refine exP ?_ ?_); all_goals try omega
                refine ⟨j + 1, ⟨by omega, fun i hi => ?_⟩, by omega, entA [(2, some 2), (3, some 3)]⟩
                by_cases e : i = j
                · subst e; unfold lnB; rw [hgj]; exact hx
                · exact haj i (by omega)
            · have hj2 : j = t[k].lines.length := by omega
              subst hj2
              refine vc_sound _ _ _ ?_; simp only [go_sem, hG, hOw]
              (repeat' with_reducible first | refine And.intro ?_ ?_ | intro _ | refine exP ?_ ?_); all_goals try omega
              exact ⟨(), all_upto haj, entA [(2, some 2), (3, some 3)]⟩
          rintro _ hrow
          simp only [go_sem, hG, hOw]
          (repeat' with_reducible first | refine And.intro ?_ ?_ | intro _ | refine exP ?_ ?_); all_goals try omega
          refine ⟨k + 1, ⟨by omega, fun i hi => ?_⟩, by omega, entA [(2, some 2), (3, some 3)]⟩
          by_cases e : i = k
          · subst e; rw [hgk]; exact hrow
          · exact hak i (by omega)
        · have hk2 : k = t.length := by omega
          subst hk2
          refine vc_sound _ _ _ ?_; simp only [go_sem, hG, hOw]
          (repeat' with_reducible first | refine And.intro ?_ ?_ | intro _ | refine exP ?_ ?_); all_goals try omega
          exact ⟨(), by rw [hce]; exact all_upto hak, ent_of0 (by (simp only [go_sem]) <;> simp) hNm⟩
      rintro _ hfull
      simp (maxSteps := 2000000) only [go_sem, hG, hOw, hfull]
    · have h2' : decide (20 < (c.rds.length : Int)) = true := decide_eq_true (by omega)
      simp (maxSteps := 2000000) only [go_sem, hG, hOw, h2', bad2 h2]
theorem RCheckCopy_ok (t : List Ch) (ht : OKt t) (c : Cp) (hn : c.rds.length ≤ 1000) (hw : ∀ r ∈ c.rds, r.word.size ≤ 100000) : Gives Tryz.prog 42 [txE 0 t, cpE 0 c] (fun _ => i64 (copyE t c)) := by
  refine pure_intro (ow := fun _ => false) Tryz.func42 Tryz.ntmps42 rfl (by kernel_rfl) (by simp) rfl (by decide) fun G hG hOw hNm hB => ?_; simp only [go_sem, hG, hOw]
  refine call_pureA (Text_ok t ht) ?_
  cases h : textB t with
  | false =>
    have e : copyE t c = 10 := by simp [copyE, h]
    simp (maxSteps := 2000000) only [go_sem, hG, hOw, e]
  | true =>
    simp only [go_sem, hG, hOw]
    refine call_pureA (RCopy_ok t h c hn hw) ?_
    cases hc : copyB t c with
    | false =>
      have e : copyE t c = 11 := by simp [copyE, h, hc]
      simp (maxSteps := 2000000) only [go_sem, hG, hOw, e]
    | true =>
      have e : copyE t c = 0 := by simp [copyE, h, hc]
      simp (maxSteps := 2000000) only [go_sem, hG, hOw, e]
end Go.Proofs.YtphadkcpgnkpfaaGreatDoor
