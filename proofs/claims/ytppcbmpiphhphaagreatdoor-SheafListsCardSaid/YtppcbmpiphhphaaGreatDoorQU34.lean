import Derived.Test.YtppcbmpiphhphaaGreatDoorQU17
import Derived.Test.YtppcbmpiphhphaaGreatDoorQU18
import Derived.Test.YtppcbmpiphhphaaGreatDoorQU21
import Derived.Test.YtppcbmpiphhphaaGreatDoorQU33
namespace Go.Proofs.YtppcbmpiphhphaaGreatDoor
open Go Pm
set_option linter.unusedSimpArgs false
set_option linter.unusedVariables false
set_option maxHeartbeats 4000000
set_option maxRecDepth 100000
def gtS (s : Si) : Bool := decide (40 < (s.word.size : Int)) || decide (120 < (s.bef.size : Int)) || decide (120 < (s.aft.size : Int))
def gtSs (l : List Si) : Bool := decide (800 < (l.length : Int)) || l.any gtS
theorem gtS_bd {s : Si} (h : gtS s = false) : s.word.size ≤ 40 ∧ s.bef.size ≤ 120 ∧ s.aft.size ≤ 120 := by
  simp only [gtS, Bool.or_eq_false_iff, decide_eq_false_iff_not] at h
  omega
theorem RGreatS_ok (s : Si) : Gives Tryz.prog 20 [.agg (siC s)] (fun _ => bl (gtS s)) := by
  unfold gtS
  refine pure_intro (ow := fun _ => false) Tryz.func20 Tryz.ntmps20 rfl (by kernel_rfl) (by simp) rfl (by decide) fun G hG hOw hNm hB => ?_; simp only [go_sem, hG, hOw]
  refine ⟨fun h1 => ⟨fun h2 => ?_, fun h2 => ?_⟩, fun h1 => ?_⟩
  · simp [h1, h2]
  · simp [h1, h2]
  · simp [h1]
theorem RGreatL_ok (l : List Si) : Gives Tryz.prog 5 [sis 0 l] (fun _ => bl (gtSs l)) := by
  refine pure_intro (ow := fun _ => false) Tryz.func5 Tryz.ntmps5 rfl (by kernel_rfl) (by simp) rfl (by decide) fun G hG hOw hNm hB => ?_; simp only [go_sem, hG, hOw]
  have hl := bd_lst hB (List.mem_cons_self ..)
  simp only [List.length_map] at hl
  (repeat' with_reducible first | refine And.intro ?_ ?_ | intro _ | refine exP ?_ ?_); all_goals try omega
  · rename_i h; unfold gtSs; rw [decide_eq_true h]; rfl
  · rename_i h
    refine semC_loop (fun k : Nat => St.of [(0, sis 0 l), (3, i64 k)] []) (fun k => k ≤ l.length ∧ (l.take k).all (fun s => !gtS s) = true) (fun k => l.length - k) 0 (by simp) (ent_of0 (by (simp only [go_sem]) <;> simp) hNm) ?_
    rintro k ⟨hk, hall⟩
    by_cases hkl : k < l.length
    · have hlt : (k : Int) < l.length := by omega
      refine vc_sound _ _ _ ?_
      simp (maxSteps := 2000000) only [go_sem, hG, hOw, hlt]
      (repeat' with_reducible first | refine And.intro ?_ ?_ | intro _ | refine exP ?_ ?_); all_goals try omega
      refine call_pureA (RGreatS_ok l[k]) ?_
      cases hg : gtS l[k] with
      | true =>
        simp (maxSteps := 2000000) only [go_sem, hG, hOw, hg]
        (repeat' with_reducible first | refine And.intro ?_ ?_ | intro _ | refine exP ?_ ?_); all_goals try omega
        unfold gtSs
        rw [any_true hkl hg, Bool.or_true]
      | false =>
        simp (maxSteps := 2000000) only [go_sem, hG, hOw, hg]
        (repeat' with_reducible first | refine And.intro ?_ ?_ | intro _ | refine exP ?_ ?_); all_goals try omega
        exact ⟨k + 1, ⟨by omega, all_take_succ hkl hall (by rw [hg]; rfl)⟩, by omega, ent_of0 (by (simp only [go_sem]) <;> simp) hNm⟩
    · have hlt : ¬ (k : Int) < l.length := by omega
      refine vc_sound _ _ _ ?_
      simp (maxSteps := 2000000) only [go_sem, hG, hOw, hlt]
      try (repeat' with_reducible first | refine And.intro ?_ ?_ | intro _ | refine exP ?_ ?_); all_goals try omega
      have hke : k = l.length := by omega
      subst hke
      rw [List.take_length] at hall
      unfold gtSs
      rw [decide_eq_false h, Bool.false_or]
      symm
      rw [List.any_eq_false]
      intro x hx
      have := List.all_eq_true.1 hall x hx
      simpa using this
theorem RWritten_ok (a b c : Int) : Gives Tryz.prog 26 [.agg [i64 a, i64 b, i64 c]] (fun _ => bl (inB a 0 9999 && inB b 0 9999 && inB c 0 9999)) := by
  have w1 := within_ok a 0 9999
  have w2 := within_ok b 0 9999
  have w3 := within_ok c 0 9999
  have e : ∀ n : Int, (decide ((0 : Int) ≤ n) && decide (n ≤ 9999)) = inB n 0 9999 := fun _ => rfl
  rw [e] at w1 w2 w3
  refine pure_intro (ow := fun _ => false) Tryz.func26 Tryz.ntmps26 rfl (by kernel_rfl) (by simp) rfl (by decide) fun G hG hOw hNm hB => ?_; simp only [go_sem, hG, hOw]
  refine call_pure w1 (by first | exact Subs.refl _ | (repeat' (first | exact Subs.nil | exact Sub.refl _ | exact Sub.lo (Nat.zero_le _) | refine Subs.cons ?_ ?_ | refine Subs.agg ?_ | refine Subs.fp ?_ | refine Subs.tup ?_ | refine Sub.map (Nat.zero_le _) (fun _ => ?_)))) (by first | rfl | simp [allP, all0, pureV, pure0, *]) (by simp [chk, hG]) ?_
  cases inB a 0 9999 with
  | false =>
    simp only [go_sem, hG, hOw]
    try (repeat' with_reducible first | refine And.intro ?_ ?_ | intro _ | refine exP ?_ ?_); all_goals try omega
  | true =>
    simp only [go_sem, hG, hOw]
    (repeat' with_reducible first | refine And.intro ?_ ?_ | intro _ | refine exP ?_ ?_); all_goals try omega
    refine call_pure w2 (by first | exact Subs.refl _ | (repeat' (first | exact Subs.nil | exact Sub.refl _ | exact Sub.lo (Nat.zero_le _) | refine Subs.cons ?_ ?_ | refine Subs.agg ?_ | refine Subs.fp ?_ | refine Subs.tup ?_ | refine Sub.map (Nat.zero_le _) (fun _ => ?_)))) (by first | rfl | simp [allP, all0, pureV, pure0, *]) (by simp [chk, hG]) ?_
    cases inB b 0 9999 with
    | false =>
      simp only [go_sem, hG, hOw]
      try (repeat' with_reducible first | refine And.intro ?_ ?_ | intro _ | refine exP ?_ ?_); all_goals try omega
    | true =>
      simp only [go_sem, hG, hOw]
      (repeat' with_reducible first | refine And.intro ?_ ?_ | intro _ | refine exP ?_ ?_); all_goals try omega
      refine call_pure w3 (by first | exact Subs.refl _ | (repeat' (first | exact Subs.nil | exact Sub.refl _ | exact Sub.lo (Nat.zero_le _) | refine Subs.cons ?_ ?_ | refine Subs.agg ?_ | refine Subs.fp ?_ | refine Subs.tup ?_ | refine Sub.map (Nat.zero_le _) (fun _ => ?_)))) (by first | rfl | simp [allP, all0, pureV, pure0, *]) (by simp [chk, hG]) ?_
      simp only [go_sem, hG, hOw]
      try (repeat' with_reducible first | refine And.intro ?_ ?_ | intro _ | refine exP ?_ ?_); all_goals try omega
theorem Rwtx_ok (s : ByteArray) (hs : s.size ≤ 100000) : Gives Tryz.prog 66 [str s] (fun n => .tup [strs n (if wtxB s then (if s = ⟨#[]⟩ then [] else partsS s) else []), bl (wtxB s)]) := by
  by_cases h0 : s = ⟨#[]⟩
  · subst h0
    have e : wtxB ⟨#[]⟩ = true := by decide
    rw [e, if_pos rfl, if_pos rfl]
    refine pure_intro (ow := fun _ => false) Tryz.func66 Tryz.ntmps66 rfl (by kernel_rfl) (by simp) rfl (by decide) fun G hG hOw hNm hB => ?_; simp only [go_sem, hG, hOw]
    exact Subs.tup (.cons (.nil _ _) (.cons (.refl _) .nil))
  · have hW : wtxB s = (decide ((s.size : Int) ≤ 80) && (partsS s).all wordB) := by unfold wtxB; rw [decide_eq_false h0, Bool.false_or]
    rw [if_neg h0]
    by_cases h8 : (s.size : Int) ≤ 80
    · rw [decide_eq_true h8, Bool.true_and] at hW
      have hpl := partsS_len s
      have hpz := partsS_size s
      refine pure_intro (ow := fun i => [12].contains i) Tryz.func66 Tryz.ntmps66 rfl (by kernel_rfl) (by simp) rfl (by decide) fun G hG hOw hNm hB => ?_; simp only [go_sem, hG, hOw]
      (repeat' with_reducible first | refine And.intro ?_ ?_ | intro _ | refine exP ?_ ?_); all_goals try omega
      · rename_i h; exact absurd h h0
      refine semC_cut (fun _ : Unit => St.of [(4, .own 9 0 (partsS s).length 1)] [(9, .arr 9 1 ((partsS s).map strE))]) (fun _ => True) ?_ ?_
      · refine semC_loop (fun i : Nat => St.of [(0, .v (.string s)), (4, .own 9 0 (ptL s i).length 1), (5, i64 i)] [(9, .arr 9 1 ((ptL s i).map strE))]) (fun i => i ≤ s.size) (fun i => s.size - i) 0 (by simp) (by
          have e : ptL s 0 = [⟨#[]⟩] := rfl
          simp only [e]
          exact entA [(9, some 12)]) ?_
        rintro i hi
        obtain ⟨l1, l2⟩ := ptL_len s i
        refine vc_sound _ _ _ ?_; simp only [go_sem, hG, hOw]
        (repeat' with_reducible first | refine And.intro ?_ ?_ | intro _ | refine exP ?_ ?_); all_goals try omega
        · rename_i a1 a2
          have hil : i < s.size := by omega
          have hb : s[i] = 32 := UInt8.toNat_inj.1 (by show _ = 32; omega)
          have e := ptL_space s i hil hb
          exact ⟨i + 1, by omega, by omega, entA [(9, some 25)] (by (simp only [go_sem]) <;> simp [e,strE]) (by (simp only [go_sem, entH, entH1, nilArr, obOK]) <;> simp [e,strE])⟩
        · rename_i a1 a2
          have hil : i < s.size := by omega
          have hb : s[i] ≠ 32 := fun e => a2 (by rw [e]; rfl)
          have e := ptL_other s i hil hb (by omega)
          have e1 : (((ptL s i).length : Int) - 1).toNat = (ptL s i).length - 1 := by omega
          have e2 : ((i : Int) + 1).toNat = i + 1 := by omega
          refine semC_draw0 mixed (by kernel_rfl) ?_
          simp (maxSteps := 2000000) only [go_sem, hG, hOw, e1, e2]
          (repeat' with_reducible first | refine And.intro ?_ ?_ | intro _ | refine exP ?_ ?_); all_goals try omega
          · have q1 := ptL_size s i _ (List.getElem_mem (show (ptL s i).length - 1 < (ptL s i).length by omega))
            have q2 : (s.extract i (i + 1)).size = 1 := by rw [ByteArray.size_extract]; omega
            omega
          · have e3 : (List.map strE (ptL s i)).set ((ptL s i).length - 1) [.v (.string ((ptL s i)[(ptL s i).length - 1] ++ s.extract i (i + 1)))] = List.map strE (ptL s (i + 1)) := by rw [e, List.map_set]; rfl
            have e4 : (ptL s (i + 1)).length = (ptL s i).length := by rw [e, List.length_set]
            exact ⟨i + 1, by omega, by omega, entA [(9, some 9)] (by (simp only [go_sem]) <;> simp [e3,e4]) (by (simp only [go_sem, entH, entH1, nilArr, obOK]) <;> simp [e3,e4])⟩
        · rename_i a1
          obtain rfl : i = s.size := by omega
          rw [ptL_all]
          exact ⟨(), entA [(9, some 9)]⟩
      · rintro ⟨⟩ -
        simp only [go_sem, hG, hOw]
        refine semC_loop (fun k : Nat => St.of [(4, .own 9 0 (partsS s).length 1), (6, i64 k)] [(9, .arr 9 1 ((partsS s).map strE))]) (fun k => k ≤ (partsS s).length ∧ ((partsS s).take k).all wordB = true) (fun k => (partsS s).length - k) 0 (by simp) (entA [(9, some 9)]) ?_
        rintro k ⟨hk, hall⟩
        by_cases hkl : k < (partsS s).length
        · have hlt : (k : Int) < (partsS s).length := by omega
          refine vc_sound _ _ _ ?_
          simp (maxSteps := 2000000) only [go_sem, hG, hOw, hlt]
          (repeat' with_reducible first | refine And.intro ?_ ?_ | intro _ | refine exP ?_ ?_); all_goals try omega
          refine call_pureA (Word_ok (partsS s)[k] (by have := hpz _ (List.getElem_mem hkl); omega)) ?_
          cases hw : wordB (partsS s)[k] with
          | false =>
            rw [hW, all_false hkl hw]
            simp only [go_sem, hG, hOw]
            try (repeat' with_reducible first | refine And.intro ?_ ?_ | intro _ | refine exP ?_ ?_); all_goals try omega
            exact Subs.tup (.cons (.nil _ _) (.cons (.refl _) .nil))
          | true =>
            simp only [go_sem, hG, hOw]
            (repeat' with_reducible first | refine And.intro ?_ ?_ | intro _ | refine exP ?_ ?_); all_goals try omega
            exact ⟨k + 1, ⟨by omega, all_take_succ hkl hall hw⟩, by omega, entA [(9, some 9)]⟩
        · have hlt : ¬ (k : Int) < (partsS s).length := by omega
          have hke : k = (partsS s).length := by omega
          subst hke
          rw [List.take_length] at hall
          rw [hW, hall, if_pos rfl]
          refine vc_sound _ _ _ ?_
          simp (maxSteps := 2000000) only [go_sem, hG, hOw, hlt]
          try (repeat' with_reducible first | refine And.intro ?_ ?_ | intro _ | refine exP ?_ ?_); all_goals try omega
          trace_state
    · rw [decide_eq_false h8, Bool.false_and] at hW
      rw [hW]
      refine pure_intro (ow := fun _ => false) Tryz.func66 Tryz.ntmps66 rfl (by kernel_rfl) (by simp) rfl (by decide) fun G hG hOw hNm hB => ?_; simp only [go_sem, hG, hOw]
      (repeat' with_reducible first | refine And.intro ?_ ?_ | intro _ | refine exP ?_ ?_); all_goals try omega
      · rename_i h; exact absurd h h0
      exact Subs.tup (.cons (.nil _ _) (.cons (.refl _) .nil))
theorem RSlip_ok (s : Si) (h : bdS s) : Gives Tryz.prog 25 [.agg (siC s)] (fun _ => bl (slipB s)) := by
  obtain ⟨h1, h2, h3⟩ := h
  unfold slipB
  refine pure_intro (ow := fun _ => false) Tryz.func25 Tryz.ntmps25 rfl (by kernel_rfl) (by simp) rfl (by decide) fun G hG hOw hNm hB => ?_; simp only [go_sem, hG, hOw]
  refine call_pureA (Rwtx_ok s.bef (by omega)) ?_
  simp only [go_sem, hG, hOw]
  refine call_pureA (Rwtx_ok s.aft (by omega)) ?_
  cases wtxB s.bef with
  | false =>
    simp only [go_sem, hG, hOw]
    try (repeat' with_reducible first | refine And.intro ?_ ?_ | intro _ | refine exP ?_ ?_); all_goals try omega
  | true =>
    cases wtxB s.aft with
    | false =>
      simp only [go_sem, hG, hOw]
      try (repeat' with_reducible first | refine And.intro ?_ ?_ | intro _ | refine exP ?_ ?_); all_goals try omega
    | true =>
      simp only [go_sem, hG, hOw]
      (repeat' with_reducible first | refine And.intro ?_ ?_ | intro _ | refine exP ?_ ?_); all_goals try omega
      refine call_pureA (Word_ok s.word (by omega)) ?_
      simp only [go_sem, hG, hOw]
      try (repeat' with_reducible first | refine And.intro ?_ ?_ | intro _ | refine exP ?_ ?_); all_goals try omega
theorem Sright_ok (s : Si) (h : bdS s) : Gives Tryz.prog 59 [.agg (siC s)] (fun _ => bl (slipB s)) := by
  obtain ⟨h1, h2, h3⟩ := h
  unfold slipB
  refine pure_intro (ow := fun _ => false) Tryz.func59 Tryz.ntmps59 rfl (by kernel_rfl) (by simp) rfl (by decide) fun G hG hOw hNm hB => ?_; simp only [go_sem, hG, hOw]
  refine call_pureA (Swords_ok s.bef (by omega)) ?_
  simp only [go_sem, hG, hOw]
  refine call_pureA (Swords_ok s.aft (by omega)) ?_
  cases wtxB s.bef with
  | false =>
    simp only [go_sem, hG, hOw]
    try (repeat' with_reducible first | refine And.intro ?_ ?_ | intro _ | refine exP ?_ ?_); all_goals try omega
  | true =>
    cases wtxB s.aft with
    | false =>
      simp only [go_sem, hG, hOw]
      try (repeat' with_reducible first | refine And.intro ?_ ?_ | intro _ | refine exP ?_ ?_); all_goals try omega
    | true =>
      simp only [go_sem, hG, hOw]
      (repeat' with_reducible first | refine And.intro ?_ ?_ | intro _ | refine exP ?_ ?_); all_goals try omega
      refine call_pureA (Sword_ok s.word) ?_
      simp only [go_sem, hG, hOw]
      try (repeat' with_reducible first | refine And.intro ?_ ?_ | intro _ | refine exP ?_ ?_); all_goals try omega
theorem Places_self (a b c : Int) : Gives Tryz.prog 62 [.agg [i64 a, i64 b, i64 c], .agg [i64 a, i64 b, i64 c]] (fun _ => i64 0) := by
  have hc : ∀ a : Int, cmpI a a = 0 := fun a => by simp [cmpI]
  refine pure_intro (ow := fun _ => false) Tryz.func62 Tryz.ntmps62 rfl (by kernel_rfl) (by simp) rfl (by decide) fun G hG hOw hNm hB => ?_; simp only [go_sem, hG, hOw]
  refine semC_draw0 mixed (by kernel_rfl) ?_
  simp only [go_sem, hG, hOw]
  refine ⟨_, callGivesA (Compare_ok a a), ?_⟩
  simp (maxSteps := 2000000) only [go_sem, hG, hOw, hc]
  refine ⟨_, callGivesA (Compare_ok b b), ?_⟩
  simp (maxSteps := 2000000) only [go_sem, hG, hOw, hc]
  refine ⟨_, callGivesA (Compare_ok c c), ?_⟩
  simp (maxSteps := 2000000) only [go_sem, hG, hOw, hc]
  refine ⟨_, callGivesA (Or_zeros [0, 0, 0] (by decide) (by decide)), ?_⟩
  simp only [go_sem, hG, hOw]
theorem Order_self (s : Si) (h : bdS s) : Gives Tryz.prog 21 [.agg (siC s), .agg (siC s)] (fun _ => .tup [i64 0, i64 (if slipB s then 0 else 31)]) := by
  have hr := Sright_ok s h
  cases hg : slipB s with
  | false =>
    rw [hg] at hr
    refine pure_intro (ow := fun _ => false) Tryz.func21 Tryz.ntmps21 rfl (by kernel_rfl) (by simp) rfl (by decide) fun G hG hOw hNm hB => ?_; simp only [go_sem, hG, hOw]
    refine call_pure hr (by first | exact Subs.refl _ | (repeat' (first | exact Subs.nil | exact Sub.refl _ | exact Sub.lo (Nat.zero_le _) | refine Subs.cons ?_ ?_ | refine Subs.agg ?_ | refine Subs.fp ?_ | refine Subs.tup ?_ | refine Sub.map (Nat.zero_le _) (fun _ => ?_)))) (by first | rfl | simp [allP, all0, pureV, pure0, *]) (by simp [chk, hG]) ?_
    simp only [go_sem, hG, hOw]
    try (repeat' with_reducible first | refine And.intro ?_ ?_ | intro _ | refine exP ?_ ?_); all_goals try omega
  | true =>
    rw [hg] at hr
    refine pure_intro (ow := fun _ => false) Tryz.func21 Tryz.ntmps21 rfl (by kernel_rfl) (by simp) rfl (by decide) fun G hG hOw hNm hB => ?_; simp only [go_sem, hG, hOw]
    refine call_pure hr (by first | exact Subs.refl _ | (repeat' (first | exact Subs.nil | exact Sub.refl _ | exact Sub.lo (Nat.zero_le _) | refine Subs.cons ?_ ?_ | refine Subs.agg ?_ | refine Subs.fp ?_ | refine Subs.tup ?_ | refine Sub.map (Nat.zero_le _) (fun _ => ?_)))) (by first | rfl | simp [allP, all0, pureV, pure0, *]) (by simp [chk, hG]) ?_
    simp only [go_sem, hG, hOw]
    (repeat' with_reducible first | refine And.intro ?_ ?_ | intro _ | refine exP ?_ ?_); all_goals try omega
    refine call_pure hr (by first | exact Subs.refl _ | (repeat' (first | exact Subs.nil | exact Sub.refl _ | exact Sub.lo (Nat.zero_le _) | refine Subs.cons ?_ ?_ | refine Subs.agg ?_ | refine Subs.fp ?_ | refine Subs.tup ?_ | refine Sub.map (Nat.zero_le _) (fun _ => ?_)))) (by first | rfl | simp [allP, all0, pureV, pure0, *]) (by simp [chk, hG]) ?_
    simp only [go_sem, hG, hOw]
    (repeat' with_reducible first | refine And.intro ?_ ?_ | intro _ | refine exP ?_ ?_); all_goals try omega
    refine semC_draw0 mixed (by kernel_rfl) ?_
    simp only [go_sem, hG, hOw]
    refine ⟨_, callGivesA (Comps_self s.word), ?_⟩
    simp only [go_sem, hG, hOw]
    refine ⟨_, callGivesA (Places_self s.ch s.ln s.wd), ?_⟩
    simp only [go_sem, hG, hOw]
    refine ⟨_, callGivesA (Comps_self s.aft), ?_⟩
    simp only [go_sem, hG, hOw]
    refine ⟨_, callGivesA (Comps_self s.bef), ?_⟩
    simp only [go_sem, hG, hOw]
    refine ⟨_, callGivesA (Or_zeros [0, 0, 0, 0] (by decide) (by decide)), ?_⟩
    simp only [go_sem, hG, hOw]
end Go.Proofs.YtppcbmpiphhphaaGreatDoor
