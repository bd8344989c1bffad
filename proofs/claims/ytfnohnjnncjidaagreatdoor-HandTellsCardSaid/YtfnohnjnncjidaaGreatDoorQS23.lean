import Derived.Test.YtfnohnjnncjidaaGreatDoorQS22
namespace Go.Proofs.YtfnohnjnncjidaaGreatDoor
open Go Pm
set_option linter.unusedSimpArgs false
set_option linter.unusedVariables false
set_option maxHeartbeats 4000000
set_option maxRecDepth 100000
def diffAt (x y : Se) (a b : Sr) (n : Int) : Bool := !decide (x.lines[(n - a.fr).toNat]? = y.lines[(n - b.fr).toNat]?)
def differB (x y : Se) (a b : Sr) : Bool := !(!x.back || !y.back || tornB x a || tornB y b) && (List.range (a.to - b.fr + 1).toNat).any fun j => diffAt x y a b (b.fr + j)
def differI (r : Ro) (i : Nat) : Bool := match r.sheets[i]?, r.sheets[i + 1]?, r.shares[i]?, r.shares[i + 1]? with
  | some x, some y, some a, some b => differB x y a b
  | _, _, _, _ => false
theorem differI_at (r : Ro) {i : Nat} (h1 : i + 1 < r.shares.length) (h2 : i + 1 < r.sheets.length) : differI r i = differB r.sheets[i] r.sheets[i + 1] r.shares[i] r.shares[i + 1] := by
  simp [differI, h1, h2, (by omega : i < r.shares.length), (by omega : i < r.sheets.length)]
theorem roundB_of {r : Ro} (he : roundE r = 0) : roundB r = true := by
  unfold roundE at he
  split at he
  · split at he
    · assumption
    · omega
  · omega
theorem Good.mono {r : Ro} (hr : Good r) {k : Nat} (hk : k + 1 < r.shares.length) : r.shares[k].fr < r.shares[k + 1].fr ∧ r.shares[k].to < r.shares[k + 1].to := by
  have hb := roundB_of hr.e
  simp only [roundB, Bool.and_eq_true] at hb
  have := allPre_at hb.1.2 hk
  unfold shareB at this
  rw [last_take r.shares (k + 1) (by omega) (by omega)] at this
  simp only [Bool.and_eq_true, decide_eq_true_eq] at this
  exact this.1.2
theorem differ_ok (r : Ro) (hr : Good r) (i : Nat) (hi : i + 1 < r.shares.length) : Gives Tryz.prog 154 [roE 0 r, i64 i] (fun _ => bl (differI r i)) := by
  refine pure_intro (ow := fun _ => false) Tryz.func154 Tryz.ntmps154 rfl (by kernel_rfl) (by simp) rfl (by decide) fun G hG hOw hNm hB => ?_; simp only [go_sem, hG, hOw]
  have hx := hr.xn
  have hs := hr.s i (by omega)
  have hs2 := hr.s (i + 1) hi
  have hl := hr.ll
  have hxi : i + 1 < r.sheets.length := by omega
  have hx2 := (hr.ok.x.2 _ (List.getElem_mem hxi)).1
  have hx1 := (hr.ok.x.2 _ (List.getElem_mem (by omega : i < r.sheets.length))).1
  rw [differI_at r hi hxi]
  have hsn := hr.sn
  have hm := hr.mono hi
  have x1 : ((i : Int) + 1).toNat = i + 1 := by omega
  have hT1 := torn_ok r hr i (by omega)
  have hT2 : Gives Tryz.prog 153 [roE 0 r, i64 ((i : Int) + 1)] (fun _ => bl (tornI r (i + 1))) := torn_ok r hr (i + 1) hi
  have e1 := tornI_at r (i := i) (by omega) (by omega)
  have e2 := tornI_at r (i := i + 1) hi hxi
  refine semC_draw0 mixed (by kernel_rfl) ?_
  simp (maxSteps := 2000000) only [go_sem, hG, hOw, x1]
  (repeat' with_reducible first | refine And.intro ?_ ?_ | intro _ | refine exP ?_ ?_); all_goals try omega
  refine semC_draw0 mixed (by kernel_rfl) ?_
  simp (maxSteps := 2000000) only [go_sem, hG, hOw, x1]
  (repeat' with_reducible first | refine And.intro ?_ ?_ | intro _ | refine exP ?_ ?_); all_goals try omega
  · rename_i h1 h2
    refine call_pure hT1 (by first | exact Subs.refl _ | (repeat' (first | exact Subs.nil | exact Sub.refl _ | exact Sub.lo (Nat.zero_le _) | refine Subs.cons ?_ ?_ | refine Subs.agg ?_ | refine Subs.fp ?_ | refine Subs.tup ?_ | refine Sub.map (Nat.zero_le _) (fun _ => ?_)))) (by first | rfl | simp [allP, all0, pureV, pure0, *]) (by simp [chk, hG]) ?_
    simp only [go_sem, hG, hOw]
    (repeat' with_reducible first | refine And.intro ?_ ?_ | intro _ | refine exP ?_ ?_); all_goals try omega
    · rename_i h3
      refine call_pure hT2 (by first | exact Subs.refl _ | (repeat' (first | exact Subs.nil | exact Sub.refl _ | exact Sub.lo (Nat.zero_le _) | refine Subs.cons ?_ ?_ | refine Subs.agg ?_ | refine Subs.fp ?_ | refine Subs.tup ?_ | refine Sub.map (Nat.zero_le _) (fun _ => ?_)))) (by first | rfl | simp [allP, all0, pureV, pure0, *]) (by simp [chk, hG]) ?_
      simp only [go_sem, hG, hOw]
      (repeat' with_reducible first | refine And.intro ?_ ?_ | intro _ | refine exP ?_ ?_); all_goals try omega
      · rename_i h4
        simp [differB, ← e2, h4]
      · rename_i h4
        have g1 : (r.sheets[i].lines.length : Int) = r.shares[i].to - r.shares[i].fr + 1 := by
          rw [e1] at h3; simpa [tornB, h1] using h3
        have g2 : (r.sheets[i + 1].lines.length : Int) = r.shares[i + 1].to - r.shares[i + 1].fr + 1 := by
          rw [e2] at h4; simpa [tornB, h2] using h4
        have hD : differB r.sheets[i] r.sheets[i + 1] r.shares[i] r.shares[i + 1] = (List.range (r.shares[i].to - r.shares[i + 1].fr + 1).toNat).any fun j => diffAt r.sheets[i] r.sheets[i + 1] r.shares[i] r.shares[i + 1] (r.shares[i + 1].fr + j) := by
          simp [differB, ← e1, ← e2, h1, h2, h3, h4]
        rw [hD]
        refine semC_loop (fun j : Nat => St.of [(5, .ptr 5 0), (6, .ptr 6 0), (7, .ptr 7 0), (8, .ptr 8 0), (9, i64 (r.shares[i + 1].fr + j))] [(5, .box (srE r.shares[i])), (6, .box (srE r.shares[i + 1])), (7, .box (seE 0 r.sheets[i])), (8, .box (seE 0 r.sheets[i + 1]))])
          (fun j => j ≤ (r.shares[i].to - r.shares[i + 1].fr + 1).toNat ∧ (List.range j).any (fun j => diffAt r.sheets[i] r.sheets[i + 1] r.shares[i] r.shares[i + 1] (r.shares[i + 1].fr + j)) = false) (fun j => (r.shares[i].to - r.shares[i + 1].fr + 1).toNat - j) 0 (by simp) (entA [(5, some 5), (6, some 6), (7, some 7), (8, some 8)]) ?_
        rintro j ⟨hj, hallj⟩
        refine vc_sound _ _ _ ?_; simp only [go_sem, hG, hOw]
        (repeat' with_reducible first | refine And.intro ?_ ?_ | intro _ | refine exP ?_ ?_); all_goals try omega
        · rename_i hlt
          refine semC_draw0 mixed (by kernel_rfl) ?_
          simp only [go_sem, hG, hOw]
          (repeat' with_reducible first | refine And.intro ?_ ?_ | intro _ | refine exP ?_ ?_); all_goals try omega
          have hx : (r.shares[i + 1].fr + (j : Int) - r.shares[i].fr).toNat < r.sheets[i].lines.length := by omega
          have hy : (r.shares[i + 1].fr + (j : Int) - r.shares[i + 1].fr).toNat < r.sheets[i + 1].lines.length := by omega
          refine ⟨_, callGivesA (SameWords_ok (r.sheets[i].lines[(r.shares[i + 1].fr + (j : Int) - r.shares[i].fr).toNat]'hx) (r.sheets[i + 1].lines[(r.shares[i + 1].fr + (j : Int) - r.shares[i + 1].fr).toNat]'hy)), ?_⟩
          simp only [go_sem, hG, hOw]
          have hdiff : diffAt r.sheets[i] r.sheets[i + 1] r.shares[i] r.shares[i + 1] (r.shares[i + 1].fr + j) = !decide ((r.sheets[i].lines[(r.shares[i + 1].fr + (j : Int) - r.shares[i].fr).toNat]'hx) = (r.sheets[i + 1].lines[(r.shares[i + 1].fr + (j : Int) - r.shares[i + 1].fr).toNat]'hy)) := by
            unfold diffAt
            rw [List.getElem?_eq_getElem hx, List.getElem?_eq_getElem hy]
            simp only [Option.some.injEq]
          (repeat' with_reducible first | refine And.intro ?_ ?_ | intro _ | refine exP ?_ ?_); all_goals try omega
          · rename_i h5
            refine (List.any_eq_true.2 ⟨j, List.mem_range.2 (by omega), ?_⟩).symm
            rw [hdiff, decide_eq_false h5]; rfl
          · rename_i h5
            refine ⟨j + 1, ⟨by omega, ?_⟩, by omega, ?_⟩
            · rw [List.range_succ, List.any_append, hallj]
              simp only [List.any_cons, List.any_nil, hdiff, decide_eq_true h5, Bool.not_true, Bool.or_false]
            · rw [show r.shares[i + 1].fr + ((j + 1 : Nat) : Int) = r.shares[i + 1].fr + (j : Int) + 1 by omega]
              exact entA [(5, some 5), (6, some 6), (7, some 7), (8, some 8)]
        · rename_i hge
          rw [← hallj, show j = (r.shares[i].to - r.shares[i + 1].fr + 1).toNat by omega]
    · rename_i h3
      simp [differB, ← e1, h3]
  · rename_i h1 h2
    simp [differB, h2]
  · rename_i h1
    simp [differB, h1]
open Go Pm
set_option maxHeartbeats 4000000
set_option maxRecDepth 100000
def prE (p : Int × Int) : List V := [i64 p.1, i64 p.2]
def prs (lo : Nat) (l : List (Int × Int)) : V := .lst lo 2 (l.map prE)
attribute [go_sem] prE prs
theorem allOnes_prs (l : List (Int × Int)) : allOnes (l.map prE) = true := allOnes_map (fun _ => rfl) l
attribute [go_sem] allOnes_prs
def prsL (p : Nat → Bool) (k : Nat) : List (Int × Int) := ((List.range k).filter p).map fun i : Nat => ((i : Int), (i : Int) + 1)
theorem prsL_succ (p : Nat → Bool) (k : Nat) : prsL p (k + 1) = if p k then prsL p k ++ [((k : Int), (k : Int) + 1)] else prsL p k := by
  unfold prsL
  rw [List.range_succ, List.filter_append]
  cases h : p k <;> simp [h]
theorem prsL_le (p : Nat → Bool) (k : Nat) : (prsL p k).length ≤ k := by
  unfold prsL
  rw [List.length_map]
  exact Nat.le_trans (List.length_filter_le _ _) (by simp)
def befL : List Int → List Int → Bool
  | a :: u, b :: v => if a = b then befL u v else decide (a < b)
  | _, _ => false
def beforeB (l m : List Int) : Bool := if (l.length : Int) = m.length then befL l m else decide ((l.length : Int) < m.length)
theorem Before_ok (l m : List Int) : Gives Tryz.prog 39 [ints 0 l, ints 0 m] (fun _ => bl (beforeB l m)) := by
  refine pure_intro (ow := fun _ => false) Tryz.func39 Tryz.ntmps39 rfl (by kernel_rfl) (by simp) rfl (by decide) fun G hG hOw hNm hB => ?_; simp only [go_sem, hG, hOw]
  have hl := bd_lst hB (List.mem_cons_self ..)
  simp only [List.length_map] at hl
  (repeat' with_reducible first | refine And.intro ?_ ?_ | intro _ | refine exP ?_ ?_); all_goals try omega
  · rename_i h
    simp [beforeB, h]
  · rename_i h
    have hlen : l.length = m.length := by omega
    rw [show beforeB l m = befL l m by simp [beforeB, hlen]]
    refine semC_loop (fun k : Nat => St.of [(0, ints 0 l), (1, ints 0 m), (5, i64 k)] []) (fun k => k ≤ l.length ∧ befL l m = befL (l.drop k) (m.drop k)) (fun k => l.length - k) 0 (by simp) (ent_of0 (by (simp only [go_sem]) <;> simp) hNm) ?_
    rintro k ⟨hk, hall⟩
    refine vc_sound _ _ _ ?_; simp only [go_sem, hG, hOw]
    (repeat' with_reducible first | refine And.intro ?_ ?_ | intro _ | refine exP ?_ ?_); all_goals try omega
    · rename_i hlt
      have hkl : k < l.length := by omega
      have hkm : k < m.length := by omega
      rw [List.drop_eq_getElem_cons hkl, List.drop_eq_getElem_cons hkm, befL] at hall
      refine semC_draw0 mixed (by kernel_rfl) ?_
      simp only [go_sem, hG, hOw]
      (repeat' with_reducible first | refine And.intro ?_ ?_ | intro _ | refine exP ?_ ?_); all_goals try omega
      · rename_i h2
        rw [if_neg h2] at hall
        rw [hall]
        refine semC_draw0 mixed (by kernel_rfl) ?_
        simp only [go_sem, hG, hOw]
        (repeat' with_reducible first | refine And.intro ?_ ?_ | intro _ | refine exP ?_ ?_); all_goals try omega
      · rename_i h2
        rw [if_pos h2] at hall
        exact ⟨k + 1, ⟨by omega, hall⟩, by omega, ent_of0 (by (simp only [go_sem]) <;> simp) hNm⟩
    · rename_i hge
      rw [hall, List.drop_of_length_le (by omega)]; simp [befL]
end Go.Proofs.YtfnohnjnncjidaaGreatDoor
